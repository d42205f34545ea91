/- amsend: Grant, the calls that give no ne. -/
import Derived.Test.YtbhiklnljiehiaaGreatM2at
import Derived.Test.YtbhiklnljiehiaaGreatM2au
import Derived.Test.YtbhiklnljiehiaaGreatM2aw
namespace Go.Proofs.YtbhiklnljiehiaaGreat
section
open Go.RowKit Go.Shelf
attribute [local go_sem] Oper.semAt_some
section
variable {D F:Nat→Prop} {g:Nat} {c:Cf} {st:Sd} {vq vo:Value} {vs os:List Value} {w:World}
theorem YieldsIf.guard {P:Program} {ops:Array Oper} {S:World→Prop} {o:Oper} {v:Value} {a:Act} (b:Bool) (h1:b=true→YieldsIf P ops S o v a) (h2:b=false→Region.wanted o (yielded ops a.tmps)=false):YieldsIf P ops S o (cond b v undef) a:=by
 cases b with
 |true=>exact h1 rfl
 |false=>exact .inr ⟨h2 rfl,rfl⟩
theorem TH:(Tryz.prog.info? 138).map (fun i=>(i.zero,i.size,i.bytes))=some (some (.pointer none),1,8):=by kernel_rfl
theorem Qc:∃i,Tryz.prog.info? 138=some i∧i.zero=some (.pointer none)∧i.size=1∧i.bytes=8:=by
 have h:=TH;cases hi:Tryz.prog.info? 138 with
 |none=>rw[hi] at h;cases h
 |some i=>
  rw[hi] at h;simp only[Option.map_some,Option.some.injEq,Prod.mk.injEq] at h;exact ⟨i,rfl,h.1,h.2.1,h.2.2⟩
theorem Xy:Tryz.prog.underlying 141=some (.slice 138):=by kernel_rfl
theorem gU.drew {p:Nat} {x:Ou} {Ap Ar:Option Addr} {cp cr:Nat} {vp:List Value} (h:gU w D F p x Ap cp vp Ar cr):gU w.drew D F p x Ap cp vp Ar cr:=h.drewN 1
def GR (w:World) (D F:Nat→Prop) (g:Nat) (c:Cf) (R:Sd × Option Pu × Int) (e:Ending) (w':World):Prop:=
 ∃v,e= .returned (.tuple #[v,.int .i64 R.2.2])∧w'.ownsRow w.heap.size 5 1 v (TC R.2.1).length (bO (TC R.2.1))∧kX w D F g c R.1 w'
theorem JS {R:Sd × Option Pu × Int} {w':World} {er:Int} (h1:R.2.1=none) (h2:R.2.2=er) (h3:kX w D F g c R.1 w'):GR w D F g c R (.returned (.tuple #[.slice none 0 0,.int .i64 er])) w':=
 ⟨_,by rw[h2],by rw[h1];exact World.ownsRow_nil _ _ _ _,h3⟩
def sS (c:Cf) (s1:Sd) (n:Int):Sd × Option Pu:=
 match gJ s1.out with
  |some i=>match s1.out[i]? with
   |some x=>iC c n s1 i x
   |none=>(s1,none)
  |none=>match jE c n s1 with
   |(s2,none)=>(s2,none)
   |(s2,some (x,b))=>(s2,some ⟨x.sn,b,false,false,0,x.s,x.e,x.ps⟩)
theorem JU {c:Cf} {st:Sd} {now n:Int} (h1:st.failed=false) (h2:0≤n) (h3:(fA c st now).failed=false):dA c st now n=((sS c (fA c st now) n).1,(sS c (fA c st now) n).2,0):=by
 unfold dA oh sS;rw[if_neg (by simp[h1]),if_neg (by omega),if_neg (by simp[h3])];cases hp:gJ (fA c st now).out with
 |some i=>
  obtain ⟨x,hx,_⟩:=iB hp;simp only[hx];simp
 |none=>
  dsimp only;generalize jE c n (fA c st now)=R;obtain ⟨s2,_|⟨x,b⟩⟩:=R
  ·simp
  ·simp
theorem GU {c:Cf} {st:Sd} {now n:Int} (h1:st.failed=false) (h2:0≤n) (h3:(fA c st now).failed=true):dA c st now n=(fA c st now,none,8):=by
 unfold dA oh;rw[if_neg (by simp[h1]),if_neg (by omega),if_pos h3];rfl
theorem Ez {W W':World} {be:Nat} {v4:Value} {s1:Sd} {bs:List UInt8} {v:Value} {R:Sd × Option Pu × Int} (hk:Kept (fun k _=>D k) w W) (hb:au W be 53 #[v4]) (hbw:w.heap.size≤be) (hD:¬D be) (hF:∀k,F k→k<w.heap.size) (hDF:∀k,D k→F k)
 (hO:kX W D F g c s1 W') (hv:W'.ownsRow W.heap.size 5 1 v bs.length (bO bs)) (h1:R.1=s1) (h2:TC R.2.1=bs) (h3:R.2.2=0):
 (W'.setCell ⟨be,0,none⟩ (.int .i64 0)).cell? ⟨be,0,none⟩=some (.int .i64 0)∧GR w D F g c R (.returned (.tuple #[v,.int .i64 0])) (W'.setCell ⟨be,0,none⟩ (.int .i64 0)):=by
 have hb':=hb.kept hO.kept hD;have:=(hb'.av 0 (.int .i64 0)).cell 0;refine ⟨by simpa using this,v,by rw[h3],?_,?_⟩
 ·rw[h2];exact aU (aI (i:=0) hv hb' (by decide) _) hk.size
 ·rw[h1];exact hO.put hk hbw hb.lt hF hDF 0 _
set_option maxRecDepth 100000 in
set_option maxHeartbeats 1000000 in
theorem EA (h:dV w D F g c st vq vs vo os) (ht:1≤c.timer) (now n:Int) (hx:st.failed=true∨n<0):
 Calls Tryz.prog 55 #[.pointer (some ⟨g,0,none⟩),.int .i64 now,.int .i64 n] w (GR w D F g c (dA c st now n)):=by
 have hA:=h.alloc (.cells #[.int .i64 0] 53);have hch:=fP hA ht;have kW:=ah hch;have HH:=ah h;cases hf:st.failed with
 |true=>
  rw[hf] at kW;have hfin:dA c st now n=(st,none,8):=by unfold dA;rw[if_pos hf]
  rw[hfin];simp only[if_pos] at kW;clear h hA hch hf hfin hx
  go_enter_defers Tryz.func55,Tryz.ntmps55
  go_wp2_with fail;refine kW.out.mono ?_;rintro e1 w1 ⟨rfl,rfl⟩;go_wp2
  go_region
  go_wp2;refine ⟨.tuple #[.slice none 0 0,.int .i64 8],by simp[results,Tryz.results55,go_sem],JS rfl rfl ?_⟩;exact ((HH.out.alloc _).o ((Kept.refl _ w).alloc _)).drewN 1
 |false=>
  have hn:n<0:=by
   rcases hx with h|h
   ·rw[hf] at h;cases h
   ·exact h
  rw[hf] at kW;have hfin:dA c st now n=(st,none,2):=by unfold dA;rw[if_neg (by simp[hf]),if_pos hn]
  rw[hfin];simp only[Bool.false_eq_true,if_false] at kW;clear h hA hch hf hfin hx
  go_enter_defers Tryz.func55,Tryz.ntmps55
  go_wp2_with fail;refine kW.out.mono ?_;rintro e1 w1 ⟨rfl,rfl⟩;go_wp2;refine ⟨.tuple #[.slice none 0 0,.int .i64 2],by simp[results,Tryz.results55,go_sem],JS rfl rfl ?_⟩;exact (HH.out.alloc _).o ((Kept.refl _ w).alloc _)
set_option maxRecDepth 100000 in
set_option maxHeartbeats 40000000 in
theorem JV (h:dV w D F g c st vq vs vo os) (ht:Ol c) {K:Nat} (hB:jF st K) (hK:K≤90000) (hI:bS st) (hf:st.failed=false) (now n:Int) (eP:now≤9223372036854775807) (hn:0≤n) (hn2:n≤9223372036854775807):
 Calls Tryz.prog 55 #[.pointer (some ⟨g,0,none⟩),.int .i64 now,.int .i64 n] w (GR w D F g c (dA c st now n)):=by
 have hA:=h.alloc (.cells #[.int .i64 0] 53);have hch:=fP hA ht.timer.1;rw[hf] at hch;simp only[Bool.false_eq_true,if_false] at hch;have kW:=ah hch;have HH:=ah h;have hgo:=vV hA now;have rH:=ah hgo;have hB1:=hB.clock eP;have HB1:=ah hB1;have xE:=au.new w 53 #[.int .i64 0];have IB:=ah xE;have HT:=ah ht;have HI1:=ah (hI.tick c now);have C9:=ah (hB.tick c eP);have hw:=hI.w;have hDn:¬D w.heap.size:=h.fresh (aN);obtain ⟨R,hR⟩:∃R,dA c st now n=R:=⟨_,rfl⟩
 rw[hR];have HR:=ah hR;have HF:=ah hf;clear h hA hch hgo hB1 xE hI hB ht hf hR
 go_enter_defers Tryz.func55,Tryz.ntmps55
 go_wp2_with fail;refine kW.out.mono ?_;rintro e1 w1 ⟨rfl,rfl⟩;go_wp2_with fail;refine rH.out.mono ?_;rintro e2 w2 ⟨rfl,hA2,hk2⟩;have hex:=uN hA2 HB1.out (by omega) hw HF.out;have pK:=IB.out.kept hk2 hDn;have YQ:=ah hex;have qW:=ah pK;have hkk:Kept (fun k _=>D k) w w2:=((Kept.refl _ w).alloc _).trans hk2;have HKK:=ah hkk;have hz2:w.heap.size<w2.heap.size:=pK.lt;clear hA2 hex pK hk2 hkk;go_wp2_with fail;refine YQ.out.mono ?_;rintro e3 w3 ⟨⟨hf3,rfl⟩|⟨hf3,rfl⟩,hO3⟩
 ·have nS:=qW.out.kept hO3.kept hDn;have hRr:=HR.out;rw[JU HF.out hn hf3] at hRr;have JK:=ah hRr;have vX:=ah nS;obtain ⟨D3,F3,vq3,vs3,vo3,os3,hA3,hD3,hF3,hk3⟩:=hO3;have hts:gT c (cK st now)=fA c st now:=rfl;rw[hts] at hA3 hf3;have hI3:=HI1.out;have hB3:=C9.out;generalize fA c st now=s3 at*;have aa7:Kept (fun k _=>D k) w w3:=HKK.out.trans hk3;have wh:=ah hA3;have HD3:=ah hD3;have JG:=ah hF3;have lX:=ah hk3;have Xz:=ah aa7;have hpn:=uf hA3 (by have:=hI3.w;omega);have Rk:=ah hpn;have HI3:=ah hI3;have HB3:=ah hB3;have aa8:=hI3.w;have JW:=hI3.f;unfold KD at Rk;clear nS hRr hD3 hF3 hk3 hf3 hts hpn hI3 hB3 aa7;cases hpa:gJ s3.out with
  |some i=>
   rw[hpa] at Rk;obtain ⟨x,hx,hxp,_⟩:=iB hpa;obtain ⟨p,Ap,cp,vp,Ar,cr,he,ho⟩:=hA3.oe i x hx;have hg1:os3[i]?.getD (.pointer none)= .pointer (some ⟨p,0,none⟩):=by rw[he];rfl
   simp only[hg1] at Rk;have hag:=JR hA3 HB3.out aa8 JW hx he ho hxp n hn hn2;have hgb:sS c s3 n=iC c n s3 i x:=by unfold sS;rw[hpa];simp only[hx]
   have hRr:=JK.out;rw[hgb] at hRr;have HRR:=ah hRr;have HAG:=ah hag;clear hA3 hpa hx hxp he ho hg1 hag hgb hRr;go_wp2_with fail;refine Rk.out.mono ?_;rintro e4 w4 ⟨rfl,rfl⟩;go_wp2_with fail;refine HAG.out.mono ?_;rintro e5 w5 ⟨v5,rfl,hv5,E8⟩;have IE:kX w2 D F g c (iC c n s3 i x).1 w5:=kX.step lX.out HD3.out JG.out E8;have uk:=qW.out.kept IE.kept hDn;obtain ⟨q9,Qd⟩:=Ez (R:=R) (bs:=TC (iC c n s3 i x).2) (v:=v5) HKK.out qW.out (aN) hDn HH.out.lt HH.out.sub IE (aU hv5 lX.out.size) (by rw[←HRR.out]) (by rw[←HRR.out]) (by rw[←HRR.out]);have c5:=uk.cell 0;have f5:=uk.frozen 0;simp at c5;have XA:=ah Qd;have XB:=ah q9;clear hv5 E8 IE uk Qd q9;go_wp2;refine leaves_cons (f:=76) (args:= #[.pointer (some ⟨w.heap.size,0,none⟩)]) (by simp) (by simp[go_sem]) ?_;refine (eZ _ _).mono ?_;rintro e9 u9 w9 ⟨rfl,rfl,rfl⟩;have q:=XB.out;exact ⟨.tuple #[v5,.int .i64 0],by simp[results,Tryz.results55,go_sem,q],XA.out⟩
  |none=>
   rw[hpa] at Rk;simp only at Rk;have hgb:sS c s3 n=match jE c n s3 with|(s2,none)=>(s2,none)|(s2,some (x,b))=>(s2,some ⟨x.sn,b,false,false,0,x.s,x.e,x.ps⟩):=by unfold sS;rw[hpa]
   have TI:=ah hgb;have sP:=hA3.blk.cell 12;simp[dS] at sP;obtain ⟨Ao,co,rfl,hso⟩:=hA3.Om;have U1:=hso.cap;have aav:=hso.mx;have nS:=vX.out;have c3:=nS.cell 0;have f3:=nS.frozen 0;simp at c3;have wh:=ah hA3;clear hA3 hpa hgb hso nS;go_wp2_with fail;refine Rk.out.mono ?_;rintro e4 w4 ⟨rfl,rfl⟩;by_cases Jy:512≤s3.out.length
   ·have d5:decide (512≤s3.out.length)=true:=decide_eq_true Jy;have hfr:jE c n s3=(s3,none):=by unfold jE;rw[if_pos Jy]
    have hgb:=TI.out;rw[hfr] at hgb;have hRr:=JK.out;rw[hgb] at hRr;have HRR:=ah hRr;have IE:kX w2 D F g c s3 w3:=kX.step lX.out HD3.out JG.out (wh.out.o (Kept.refl _ w3));obtain ⟨q9,Qd⟩:=Ez (R:=R) (bs:= []) (v:= .slice none 0 0) HKK.out qW.out (aN) hDn HH.out.lt HH.out.sub IE (World.ownsRow_nil _ _ _ _) (by rw[←HRR.out]) (by rw[←HRR.out];rfl) (by rw[←HRR.out]);have XA:=ah Qd;have XB:=ah q9;clear hfr hgb hRr IE Qd q9;go_wp2;refine leaves_cons (f:=76) (args:= #[.pointer (some ⟨w.heap.size,0,none⟩)]) (by simp) (by simp[go_sem]) ?_;refine (eZ _ _).mono ?_;rintro e9 u9 w9 ⟨rfl,rfl,rfl⟩;have q:=XB.out;exact ⟨.tuple #[.slice none 0 0,.int .i64 0],by simp[results,Tryz.results55,go_sem,q],XA.out⟩
   ·have d5:decide (512≤s3.out.length)=false:=decide_eq_false Jy;have hch:=MJ wh.out n hn hn2 HB3.out.KB (by have:=HI3.out.le;have:=HB3.out.held;omega);have TJ:=ah hch;have hfr:jE c n s3=if (dU n s3).ps= [] then (s3,none) else ((dh c (eU s3 (dU n s3)) (nk c (eU s3 (dU n s3)))).1,some (dU n s3,(dh c (eU s3 (dU n s3)) (nk c (eU s3 (dU n s3)))).2)):=by unfold jE;rw[if_neg Jy]
    have K8:=ah hfr;clear hch hfr;go_wp2_with fail;refine TJ.out.mono ?_;rintro e5 w5 ⟨Ap,cp,sB,rfl,MN,hb5,hsB⟩;dsimp only at MN hsB ⊢;have hxa:(dU n s3).aX=false∧(dU n s3).pend= []∧(dU n s3).dM=0∧(dU n s3).sn=bP s3:=⟨rfl,rfl,rfl,rfl⟩;have XC:=chunk_ok HB3.out HI3.out.toInvV n;have XD:=Cq HI3.out.toInvV n;obtain ⟨x,hx⟩:∃x,dU n s3=x:=⟨_,rfl⟩
    rw[hx] at MN hsB hxa XC XD K8;simp only[hx];have HX:=ah hx;have HXA:=ah hxa;have TK:=ah XC;have TL:=ah XD;have XE:=ah MN;have zG:=ah hsB;have E4:=ah hb5;have hkb:Kept (fun k _=>D3 k) w3 w5:=(Kept.of_below hb5).fE fun k o ho hm=>by have:=lt_of_heap ho;omega
    have SC:=ah hkb;have uk:=(vX.out.below hb5 vX.out.lt).alloc (.cells #[.bool sB,.bool x.e,.slice Ap x.ps.length cp] 145);have YC:=au.new w5 145 #[.bool sB,.bool x.e,.slice Ap x.ps.length cp];have Md:=(wh.out.below hb5).alloc (.cells #[.bool sB,.bool x.e,.slice Ap x.ps.length cp] 145);have hk5:=hkb.alloc (.cells #[.bool sB,.bool x.e,.slice Ap x.ps.length cp] 145);have qX:=MN.zT ((Below.refl _ w5).alloc (aN) (.cells #[.bool sB,.bool x.e,.slice Ap x.ps.length cp] 145));have hcap5:x.ps.length≤cp∧cp≤9223372036854775807:=by
     obtain ⟨vl,h1,_⟩:=MN;exact ⟨(dH h1).cap,(dH h1).mx⟩
    obtain ⟨hcp1,hcp2⟩:=hcap5;have xJ:=ah uk;have JX:=ah YC;have PY:=ah Md;have rD:=ah hk5;have TM:=ah qX;clear hx hxa XC XD MN hsB hb5 hkb uk YC Md hk5 qX c3 f3 sP;by_cases hps:x.ps= []
    ·have d6:((x.ps.length:Int)==0)=true:=by rw[hps];rfl
     have hfr:=K8.out;rw[if_pos hps] at hfr;have hgb:=TI.out;rw[hfr] at hgb;have hRr:=JK.out;rw[hgb] at hRr;have HRR:=ah hRr;have Ru:=ah hps;have IE:kX w2 D F g c s3 (w5.alloc (.cells #[.bool sB,.bool x.e,.slice Ap x.ps.length cp] 145)):=kX.step lX.out HD3.out JG.out (PY.out.o rD.out);obtain ⟨q9,Qd⟩:=Ez (R:=R) (bs:= []) (v:= .slice none 0 0) HKK.out qW.out (aN) hDn HH.out.lt HH.out.sub IE (World.ownsRow_nil _ _ _ _) (by rw[←HRR.out]) (by rw[←HRR.out];rfl) (by rw[←HRR.out]);have XA:=ah Qd;have XB:=ah q9;clear hfr hgb hRr IE Qd q9 hps;go_upto_region 15 with (fail)
     have c5:=xJ.out.cell 0;have f5:=xJ.out.frozen 0;have d2:(w5.alloc (.cells #[.bool sB,.bool x.e,.slice Ap x.ps.length cp] 145)).cell? ⟨w5.heap.size,2,none⟩=some (.slice Ap x.ps.length cp):=JX.out.cell 2;simp only[List.getElem?_toArray,List.getElem?_cons_zero] at c5;generalize w5.alloc (.cells #[.bool sB,.bool x.e,.slice Ap x.ps.length cp] 145)=w6 at*;go_wp2;refine leaves_cons (f:=76) (args:= #[.pointer (some ⟨w.heap.size,0,none⟩)]) (by simp) (by simp[go_sem]) ?_;refine (eZ _ _).mono ?_;rintro e9 u9 w9 ⟨rfl,rfl,rfl⟩;have q:=XB.out;exact ⟨.tuple #[.slice none 0 0,.int .i64 0],by simp[results,Tryz.results55,go_sem,q],XA.out⟩
    ·have hpl:0<x.ps.length:=List.length_pos_iff.2 hps;have d6:((x.ps.length:Int)==0)=false:=by simp;omega
     have hfr:=K8.out;rw[if_neg hps] at hfr;have hgb:=TI.out;rw[hfr] at hgb;have hRr:=JK.out;rw[hgb] at hRr;have HRR:=ah hRr;have hok:=TK.out hps;have hsm:=TL.out hps;have hsb:sB=x.s:=zG.out hps;subst hsb;have Cg:=ah hok;have pG:=ah hsm;clear hfr hgb hRr hps hok hsm;go_upto_region 15 with (fail)
     have c5:=xJ.out.cell 0;have f5:=xJ.out.frozen 0;have d0:(w5.alloc (.cells #[.bool x.s,.bool x.e,.slice Ap x.ps.length cp] 145)).cell? ⟨w5.heap.size,0,none⟩=some (.bool x.s):=JX.out.cell 0;have d1:(w5.alloc (.cells #[.bool x.s,.bool x.e,.slice Ap x.ps.length cp] 145)).cell? ⟨w5.heap.size,1,none⟩=some (.bool x.e):=JX.out.cell 1;have d2:(w5.alloc (.cells #[.bool x.s,.bool x.e,.slice Ap x.ps.length cp] 145)).cell? ⟨w5.heap.size,2,none⟩=some (.slice Ap x.ps.length cp):=JX.out.cell 2;simp only[List.getElem?_toArray,List.getElem?_cons_zero] at c5;have TN:=ah ((Below.refl w5.heap.size w5).alloc (aN) (.cells #[.bool x.s,.bool x.e,.slice Ap x.ps.length cp] 145));have Iz:=ah (World.size_alloc w5 (.cells #[.bool x.s,.bool x.e,.slice Ap x.ps.length cp] 145));generalize w5.alloc (.cells #[.bool x.s,.bool x.e,.slice Ap x.ps.length cp] 145)=w6 at*;go_wp2_with fail;have KZ:=PY.out;have qX:=TM.out;obtain ⟨vl6,TP,XF⟩:=qX;have aa9:iO w6 w6.heap.size Ap x.ps.length cp vl6 x.ps:=⟨dH TP,rfl,fun i q hi=>let ⟨A,cq,e,ho⟩:=XF i q hi;⟨A,cq,e,dH ho⟩⟩;have hxs:=Cg.out.ps;have xD:∀q∈x.ps,q.length≤1099511627776:=fun q hq=>by
      have:=gW hq;have:=hxs.sum;omega
     have hxh:=hxs.hi;have hnx:∀W,Below w6.heap.size w6 W→Calls Tryz.prog 87 #[.pointer (some ⟨g,0,none⟩)] W fun e w'=>e= .returned (.int .i64 (bP s3:Nat))∧Below w6.heap.size w6 w':=fun W hW=>
      (qN (KZ.below hW) JW (by omega)).mono fun e w' hh=>⟨hh.1,by obtain ⟨q,rfl⟩:=hh.2;exact hW.drewN q⟩
     have hsz:∀W,Below w6.heap.size w6 W→Calls Tryz.prog 88 #[.agg #[.bool x.s,.bool x.e,.slice Ap x.ps.length cp]] W fun e w'=>e= .returned (.int .i64 (aG x:Nat))∧Below w6.heap.size w6 w':=fun W hW=>
      (pU x.s x.e Ap x.ps.length cp vl6 x.ps W ((aa9.below hW).more hW.size) (by omega) xD).mono fun e w' hh=>⟨hh.1,hW.trans (hh.2.mono hW.size)⟩
     have afH:=TP;have hl5:w5.heap.size<w6.heap.size:=by have:=Iz.out;omega
     have hS:∀W,Below w6.heap.size w6 W→(W.cell? ⟨w5.heap.size,0,none⟩=some (.bool x.s)∧W.cell? ⟨w5.heap.size,1,none⟩=some (.bool x.e)∧W.cell? ⟨w5.heap.size,2,none⟩=some (.slice Ap x.ps.length cp)):=fun W hW=>⟨(hW.cell (p:=⟨w5.heap.size,0,none⟩) hl5).trans d0,(hW.cell (p:=⟨w5.heap.size,1,none⟩) hl5).trans d1,(hW.cell (p:=⟨w5.heap.size,2,none⟩) hl5).trans d2⟩
     have AQ:=ah hnx;have Bz:=ah hsz;have HS:=ah hS;have TQ:=ah TP;have TR:=ah XF;have HXS:=ah hxs;clear hnx hsz hS TP XF aa9 xD hxs KZ afH;go_cut [10] from 44 to 51 (fun s10 wx=>∃p,s10= .pointer (some ⟨p,0,none⟩)∧au wx p 152 #[.int .i64 (bP s3:Nat),.bool false,.bool false,.bool false,.int .i64 0,.bool x.s,.bool x.e,.slice Ap x.ps.length cp,.int .i64 (aG x:Nat),.bool false,.slice none 0 0,.int .i64 0]∧Below w6.heap.size w6 wx∧w6.heap.size≤p)
     case first=>
      have hb0:=Below.refl w6.heap.size w6
      go_region_held3 (fun W=>W.cell? ⟨w5.heap.size,0,none⟩=some (.bool x.s)∧W.cell? ⟨w5.heap.size,1,none⟩=some (.bool x.e)∧W.cell? ⟨w5.heap.size,2,none⟩=some (.slice Ap x.ps.length cp))
       (first|go_keep|exact HS.out _ (by assumption)|exact HS.out _ (Below.drew (by assumption))|exact HS.out _ (Below.drewN (by assumption) _))
       (first
        |(go_at_call 87;refine (AQ.out _ (by first|assumption|exact Below.drew (by assumption)|exact Below.drewN (by assumption) _)).mono ?_;rintro e7 w7 ⟨rfl,pz⟩)
        |(go_at_call 88;refine (Bz.out _ (by first|assumption|exact Below.drew (by assumption)|exact Below.drewN (by assumption) _)).mono ?_;rintro e7 w7 ⟨rfl,pz⟩)
        |fail)
      all_goals
       go_wp2;go_meet;exact ⟨_,rfl,au.new _ _ _,pz.alloc pz.size _,pz.size⟩
     case rest=>
     obtain ⟨p,rfl,hbp,hbx,amg⟩:=hcut;have hz3:=E4.out.size;have amh:=Iz.out;have hzc:=hbx.size;have hbW:Below w3.heap.size w3 wc:=E4.out.trans ((TN.out.mono hz3).trans (hbx.mono (by omega)));have Tv:=PY.out.below hbx;have XG:bF wc w3.heap.size (.slice Ap x.ps.length cp) x.ps:=bF.zT ⟨vl6,TQ.out,TR.out⟩ hbx;have hxa:=HXA.out;obtain ⟨xa1,xa2,xa3,xa4⟩:=hxa;have XH:au wc p 152 (DN x (.slice Ap x.ps.length cp) (.slice none 0 0)):=by
      have e:DN x (.slice Ap x.ps.length cp) (.slice none 0 0)= #[.int .i64 (bP s3:Nat),.bool false,.bool false,.bool false,.int .i64 0,.bool x.s,.bool x.e,.slice Ap x.ps.length cp,.int .i64 (aG x:Nat),.bool false,.slice none 0 0,.int .i64 0]:=by
       unfold DN;rw[xa1,xa3,xa4];rfl
      rw[e];exact hbp
     have hkW:Kept (fun k _=>D k) w2 wc:=lX.out.step ((Kept.of_below hbW).fE fun k o ho hm=>by have:=lt_of_heap ho;omega) HD3.out;have beW:=xJ.out.below hbx xJ.out.lt;have sP:=Tv.blk.cell 12;have e12:=Tv.blk.frozen 12;simp[dS] at sP;have afM:=Tv.blk.lt;have Rh:=ah Tv;have XI:=ah XG;have XJ:=ah XH;have Bg:=ah hbW;have XK:=ah beW;have Qe:=ah (And.intro xa1 (And.intro xa2 (And.intro xa3 xa4)));have Qf:=ah (fun (w8:World) (A8:Option Addr) (c8:Nat) hq8 Sf hf8=>wh.out.grow (W2:=wc) (w5:=w8) (x:=x) (Ap:=Ap) (A5:=A8) (cp:=cp) (c5:=c8) (p:=p) (base:=w3.heap.size) hbW XH (by omega) XG (aN) xa2 (fun q hq=>HXS.out.pos q hq) hq8 Sf hf8);obtain ⟨j1,hj1,hq0,hq1,hq2⟩:=Qc;clear Tv XG XH hbW beW xa1 xa2 xa3 xa4 hbp hkW;go_wp2_with (at_builtin;refine xk rfl (.tmp 56) (.tmp 58) 141 rfl j1 (.pointer none) 8 Xy hj1 hq0 hq1 hq2 rfl rfl (Rh.out.rX.alloc (.cells #[.pointer (some ⟨p,0,none⟩)] 138)) ⟨wc.heap.size,0,none⟩ 1 (.pointer (some ⟨p,0,none⟩)) rfl ?c1 rfl ?c2 ?c3 ?c4 ?_)
     case c1=>exact World.news_of_block (heap_alloc_new wc _) 0 _ rfl
     case c2=>unfold maxLen;omega
     case c3=>omega
     case c4=>omega
     intro v8 w8 Qg JY hq8;obtain ⟨A8,c8,rfl,hs8⟩:=Qg.sl;obtain ⟨D9,F9,vl9,hA9,hD9,hF9,R9,YX⟩:=Qf.out w8 A8 c8 Qg JY (fun k hk=>(hq8 k hk).imp id (fun h=>by rw[World.size_alloc];exact h));have NK:=((Rh.out.blk.alloc (.cells #[.pointer (some ⟨p,0,none⟩)] 138)).grown JY (fun e=>Rh.out.gne.2 e.symm));have aba:=NK.cell 12;have afN:=NK.frozen 12;simp[dS] at aba;have afO:g<(wc.alloc (.cells #[.pointer (some ⟨p,0,none⟩)] 138)).heap.size:=Nat.lt_of_lt_of_le Rh.out.blk.lt (by simp);have GH:=ah hA9;have XL:=ah hD9;have HF9:=ah hF9;have Sb:=ah R9;have GV:=ah YX;have Tc:au (w8.setCell ⟨g,12,none⟩ (.slice A8 (s3.out.length+1) c8)) w.heap.size 53 #[.int .i64 0]:=vX.out.kept R9 (fun hd=>by
      rcases HD3.out _ hd with e|e
      ·exact hDn e
      ·omega)
     have Qh:=ah Tc;clear hA9 hD9 hF9 R9 YX Qg JY hq8 hs8 NK Tc;go_upto_region 19 with (fail)
     generalize w8.setCell ⟨g,12,none⟩ (.slice A8 (s3.out.length+1) c8)=w9 at*;clear aba afN sP e12 d0 d1 d2 c5 f5 afO afM;have AU:=GH.out.blk.cell 10;have e10:=GH.out.blk.frozen 10;have p8:=GV.out.blk.cell 8;simp[dS] at AU;simp[DN] at p8;have hsm:=pG.out;have EY:=HB3.out.held;have NJ:=HB3.out.dN;have hby:=HB3.out.bytes;have aml:=gX Cg.out;have hts:s3.taken+aG x≤1048576:=by omega
     have P7:=(GH.out.mQ 10 (.int .i64 ((s3.taken:Int)+(aG x:Nat))) (st':= {s3 with out:=s3.out++ [x],taken:=s3.taken+aG x}) (by simp[dS]) rfl rfl).drew;have P6:=(GV.out.far GH.out.gd (fun e=>GH.out.blk.off GV.out.blk (by decide) e) 10 (.int .i64 ((s3.taken:Int)+(aG x:Nat)))).drew;have hk10:=(Sb.out.step ((Kept.refl (fun k _=>D9 k) w9).setCell (p:=⟨g,10,none⟩) (fun _ _=>GH.out.gd) (.int .i64 ((s3.taken:Int)+(aG x:Nat)))) XL.out).drew;have Vi:=(Qh.out.far (p:=⟨g,10,none⟩) (fun e=>Qh.out.off GH.out.blk (by decide) e) (.int .i64 ((s3.taken:Int)+(aG x:Nat)))).drew;have nK:=ah P7;have JZ:=ah P6;have TS:=ah hk10;have Da:=ah Vi;clear hsm EY P7 P6 hk10 Vi
     go_region
     generalize (w9.setCell ⟨g,10,none⟩ (.int .i64 ((s3.taken:Int)+(aG x:Nat)))).drew=OO at*;clear AU e10 p8;have y13:=nK.out.blk.cell 13;have CG:=nK.out.blk.cell 14;have e13:=nK.out.blk.frozen 13;have e14:=nK.out.blk.frozen 14;have p8:=JZ.out.blk.cell 8;simp[dS] at y13 CG;simp[DN] at p8;go_wp2_with fail;go_cut [] from 73 to 92 (fun wx=>wx=((OO.setCell ⟨g,13,none⟩ (.int .i64 ((s3.dN:Int)+1))).setCell ⟨g,14,none⟩ (.int .i64 ((s3.bytes:Int)+(aG x:Nat)))).drew)
     case first=>
      clear nK JZ TS Da GH XL HF9 Sb GV Qh Qf Qe XK Bg XJ XI Rh hbx E4 SC xJ JX PY rD TM HRR Cg pG TN Iz AQ Bz HS TQ TR HXS HX HXA TK TL XE zG K8 TJ TI wh HI3 HB3 Rk lX HD3 JG Xz JK vX HKK qW YQ HR HF C9 HI1 HT IB HB1 rH HH kW;generalize aG x=sz at*;refine wp_region_noPanic ?_;refine aZ (fun w'=>w'.cell? ⟨g,13,none⟩=some (.int .i64 (s3.dN:Nat))∧w'.cell? ⟨g,14,none⟩=some (.int .i64 (s3.bytes:Nat))∧w'.cell? ⟨p,8,none⟩=some (.int .i64 (sz:Nat))) [18,21] (by kernel_rfl) ?_;have hHeld:OO.drew.cell? ⟨g,13,none⟩=some (.int .i64 (s3.dN:Nat))∧OO.drew.cell? ⟨g,14,none⟩=some (.int .i64 (s3.bytes:Nat))∧OO.drew.cell? ⟨p,8,none⟩=some (.int .i64 (sz:Nat)):=⟨y13,CG,p8⟩;refine aY 0 rfl hHeld ?_
      try simp only[Act.put,aB,aC,ax,ay,aA]
      refine aY 1 rfl hHeld ?_
      try simp only[Act.put,aB,aC,aD,ax,ay,aA]
      refine aY 2 rfl hHeld ?_
      try simp only[Act.put,aB,aC,aD,ax,ay,aA]
      refine aY 3 rfl hHeld ?_
      try simp only[Act.put,aB,aC,aD,ax,ay,aA]
      refine aY 4 rfl hHeld ?_
      try simp only[Act.put,aB,aC,aD,ax,ay,aA]
      refine gV [18,21] 5 ?_ rfl (Or.inl ⟨by rfl,?_⟩) hHeld ?_;rotate_left
      ·intro w' hSw;obtain ⟨hS1,hS2,gH⟩:=hSw;go_simp
       try with_reducible rfl
      try simp only[Act.put,aB,aC,aD,ax,ay,aA]
      refine aY 6 rfl hHeld ?_
      try simp only[Act.put,aB,aC,aD,ax,ay,aA]
      refine aY 7 rfl hHeld ?_
      try simp only[Act.put,aB,aC,aD,ax,ay,aA]
      refine aY 8 rfl hHeld ?_
      try simp only[Act.put,aB,aC,aD,ax,ay,aA]
      refine aY 9 rfl hHeld ?_
      try simp only[Act.put,aB,aC,aD,ax,ay,aA]
      refine gV [18,21] 10 ?_ rfl (Or.inl ⟨by rfl,?_⟩) hHeld ?_;rotate_left
      ·intro w' hSw;obtain ⟨hS1,hS2,gH⟩:=hSw;go_simp
       try with_reducible rfl
      try simp only[Act.put,aB,aC,aD,ax,ay,aA]
      refine aY 11 rfl hHeld ?_
      try simp only[Act.put,aB,aC,aD,ax,ay,aA]
      refine aY 12 rfl hHeld ?_
      try simp only[Act.put,aB,aC,aD,ax,ay,aA]
      refine aY 13 rfl hHeld ?_
      try simp only[Act.put,aB,aC,aD,ax,ay,aA]
      refine gV [18,21] 14 ?_ rfl (Or.inl ⟨by rfl,?_⟩) hHeld ?_;rotate_left
      ·intro w' hSw;obtain ⟨hS1,hS2,gH⟩:=hSw;go_simp
       try with_reducible rfl
      try simp only[Act.put,aB,aC,aD,ax,ay,aA]
      refine aY 15 rfl hHeld ?_
      try simp only[Act.put,aB,aC,aD,ax,ay,aA]
      refine aY 16 rfl hHeld ?_
      try simp only[Act.put,aB,aC,aD,ax,ay,aA]
      refine aY 17 rfl hHeld ?_
      try simp only[Act.put,aB,aC,aD,ax,ay,aA]
      refine bD (i:=18) rfl (by kernel_rfl) (by kernel_rfl) (by rfl) (fun K hK=> ?_);go_simp;refine hK _ _ ?_;clear hK K
      try simp only[Act.put,aB,aC,aD,ax,ay,aA]
      refine qT 19 rfl ?_
      try simp only[Act.put,aB,aC,aD,ax,ay,aA]
      refine qT 20 rfl ?_
      try simp only[Act.put,aB,aC,aD,ax,ay,aA]
      refine bD (i:=21) rfl (by kernel_rfl) (by kernel_rfl) (by rfl) (fun K hK=> ?_);go_simp;refine hK _ _ ?_;clear hK K
      try simp only[Act.put,aB,aC,aD,ax,ay,aA]
      refine bu (by kernel_rfl) ?_ _;refine NoPanic.normal ?_;rw[IntWalk.i64_in ((s3.dN:Int)+1) (by omega),IntWalk.i64_in ((s3.bytes:Int)+(sz:Nat)) (by omega)];go_wp2_with fail;go_meet;rfl
     case rest=>
     subst hcut;have abb:=((nK.out.mQ 13 (.int .i64 ((s3.dN:Int)+1)) (st':= {s3 with out:=s3.out++ [x],taken:=s3.taken+aG x,dN:=s3.dN+1}) (by simp[dS]) rfl rfl).mQ 14 (.int .i64 ((s3.bytes:Int)+(aG x:Nat))) (st':=eU s3 x) (by simp[dS,eU]) rfl rfl).drew;have abd:=((JZ.out.far nK.out.gd (fun e=>nK.out.blk.off JZ.out.blk (by decide) e) 13 (.int .i64 ((s3.dN:Int)+1))).far nK.out.gd (fun e=>nK.out.blk.off JZ.out.blk (by decide) e) 14 (.int .i64 ((s3.bytes:Int)+(aG x:Nat)))).drew;have abe:=(TS.out.step (((Kept.refl (fun k _=>D9 k) OO).setCell (p:=⟨g,13,none⟩) (fun _ _=>nK.out.gd) (.int .i64 ((s3.dN:Int)+1))).setCell (p:=⟨g,14,none⟩) (fun _ _=>nK.out.gd) (.int .i64 ((s3.bytes:Int)+(aG x:Nat)))) XL.out).drew;have Vj:=((Da.out.far (p:=⟨g,13,none⟩) (fun e=>Da.out.off nK.out.blk (by decide) e) (.int .i64 ((s3.dN:Int)+1))).far (p:=⟨g,14,none⟩) (fun e=>Da.out.off nK.out.blk (by decide) e) (.int .i64 ((s3.bytes:Int)+(aG x:Nat)))).drew;have EB:=ah abb;have BN:=ah abd;have TT:=ah abe;have K9:=ah Vj;clear abb abd abe Vj y13 CG e13 e14 p8 hts;generalize (((OO.setCell ⟨g,13,none⟩ (.int .i64 ((s3.dN:Int)+1))).setCell ⟨g,14,none⟩ (.int .i64 ((s3.bytes:Int)+(aG x:Nat)))).drew)=zV at*;go_wp2_with fail;have afP:=pG.out;have EY:=HB3.out.held;have GG:aW (eU s3 x)≤1048576:=EY;have hol:(eU s3 x).out.length≤512:=by
      show (s3.out++ [x]).length≤512
      rw[List.length_append];simp;omega
     have hf1:(eU s3 x).first<1024:=JW
     obtain ⟨b,hb⟩:∃b,b=nk c (eU s3 x):=⟨_,rfl⟩
     have Qi:x.sn=bP s3:=Qe.out.2.2.2;have hfi:=jq EB.out.drew GG hol hf1 x.sn false false false 0 x.s x.e Ap x.ps.length cp vl9 x.ps (fun w' hk=>BN.out.drew.JQ EB.out.drew.lt hk) (oH Cg.out) (by omega) b;rw[Qi] at hfi;have MO:Calls Tryz.prog 89 #[.pointer (some ⟨g,0,none⟩),.agg #[.int .i64 (bP s3:Nat),.bool false,.bool false,.bool false,.int .i64 0,.bool x.s,.bool x.e,.slice Ap x.ps.length cp],.bool b] zV.drew (Ew zV.drew D9 F9 g c (dh c (eU s3 x) b).1 (xC (bP s3) (dh c (eU s3 x) b).2 false false 0 x.s x.e x.ps)):=hfi;have GQ:=ah MO;have amm:w.heap.size≠g:=fun e=>K9.out.off EB.out.blk (by decide) e
     have hzz:=lX.out.size;have afQ:¬D9 w.heap.size:=fun hd=>by
      rcases XL.out _ hd with e|e
      ·rcases HD3.out _ e with e|e
       ·exact hDn e
       ·omega
      ·omega
     have y0:=EB.out.blk.cell 0;have y1:=EB.out.blk.cell 1;have y13:=EB.out.blk.cell 13;have CG:=EB.out.blk.cell 14;simp[dS,eU] at y0 y1 y13 CG;obtain ⟨p0,p7,p8,p9,p10,p11⟩:=BN.out.cells;obtain ⟨p1,p2,p3,p4,p5,p6⟩:=(show zV.cell? ⟨p,1,none⟩=some (.bool false)∧zV.cell? ⟨p,2,none⟩=some (.bool false)∧zV.cell? ⟨p,3,none⟩=some (.bool false)∧zV.cell? ⟨p,4,none⟩=some (.int .i64 0)∧zV.cell? ⟨p,5,none⟩=some (.bool x.s)∧zV.cell? ⟨p,6,none⟩=some (.bool x.e) from
      ⟨BN.out.blk.cell 1,BN.out.blk.cell 2,BN.out.blk.cell 3,BN.out.blk.cell 4,BN.out.blk.cell 5,BN.out.blk.cell 6⟩)
     rw[Qi] at p0;have HB:=ah hb;have Ve:=ah GG;clear hfi MO GG hol hf1 Qi hb afP EY p8 p9 p10 p11;go_cut [6] from 93 to 136 (fun s6 wx=>∃W',wx=W'.setCell ⟨w.heap.size,0,none⟩ (.int .i64 0)∧W'.ownsRow zV.heap.size 5 1 s6 (xC (bP s3) (dh c (eU s3 x) b).2 false false 0 x.s x.e x.ps).length (bO (xC (bP s3) (dh c (eU s3 x) b).2 false false 0 x.s x.e x.ps))∧kX zV.drew D9 F9 g c (dh c (eU s3 x) b).1 W')
     case first=>
      have hbb:=HB.out;unfold nk at hbb;have e1:((eU s3 x).dN:Int)=(s3.dN:Int)+1:=by simp[eU]
      have e2:((eU s3 x).bytes:Int)=(s3.bytes:Int)+(aG x:Nat):=by simp[eU]
      rw[e1,e2] at hbb;clear e1 e2;have IB:=ah K9.out;have NB:=ah afQ;clear EB BN TT K9 nK JZ TS Da GH XL HF9 Sb GV Qh Qf Qe XK Bg XJ XI Rh hbx E4 SC xJ JX PY rD TM HRR Cg pG TN Iz AQ Bz HS TQ TR HXS HX HXA TK TL XE zG K8 TJ TI wh HI3 HB3 Rk lX HD3 JG Xz JK vX HKK qW YQ HR HF C9 HI1 HT HB1 rH HH kW HB Ve;have hHeld:=(show zV.drew.cell? ⟨g,0,none⟩=some (.int .i64 c.Ny)∧zV.drew.cell? ⟨g,1,none⟩=some (.int .i64 c.byte)∧zV.drew.cell? ⟨g,13,none⟩=some (.int .i64 ((s3.dN:Int)+1))∧zV.drew.cell? ⟨g,14,none⟩=some (.int .i64 ((s3.bytes:Int)+(aG x:Nat)))∧zV.drew.cell? ⟨p,0,none⟩=some (.int .i64 (bP s3:Nat))∧zV.drew.cell? ⟨p,1,none⟩=some (.bool false)∧zV.drew.cell? ⟨p,2,none⟩=some (.bool false)∧zV.drew.cell? ⟨p,3,none⟩=some (.bool false)∧zV.drew.cell? ⟨p,4,none⟩=some (.int .i64 0)∧zV.drew.cell? ⟨p,5,none⟩=some (.bool x.s)∧zV.drew.cell? ⟨p,6,none⟩=some (.bool x.e)∧zV.drew.cell? ⟨p,7,none⟩=some (.slice Ap x.ps.length cp) from ⟨y0,y1,y13,CG,p0,p1,p2,p3,p4,p5,p6,p7⟩);clear y0 y1 y13 CG p0 p1 p2 p3 p4 p5 p6 p7;obtain ⟨bA,d1⟩:∃q,decide (0<c.Ny)=q:=⟨_,rfl⟩
      obtain ⟨bE,d2⟩:∃q,decide (c.Ny≤(s3.dN:Int)+1)=q:=⟨_,rfl⟩
      obtain ⟨bB,d3⟩:∃q,decide (0<c.byte)=q:=⟨_,rfl⟩
      obtain ⟨bC,d4⟩:∃q,decide (c.byte≤(s3.bytes:Int)+(aG x:Nat))=q:=⟨_,rfl⟩
      rw[d1,d2,d3,d4] at hbb;obtain ⟨pq,hpq⟩:∃q,(bA&&bE)=q:=⟨_,rfl⟩
      obtain ⟨q2,hq2⟩:∃q,(bB&&bC)=q:=⟨_,rfl⟩
      rw[hpq,hq2] at hbb;have HPQ:=ah hpq;have HQ2:=ah hq2;have Pg:=ah hbb;clear hpq hq2 hbb;refine wp_region_noPanic ?_;refine aZ (fun w'=>w'.cell? ⟨g,0,none⟩=some (.int .i64 c.Ny)∧w'.cell? ⟨g,1,none⟩=some (.int .i64 c.byte)∧w'.cell? ⟨g,13,none⟩=some (.int .i64 ((s3.dN:Int)+1))∧w'.cell? ⟨g,14,none⟩=some (.int .i64 ((s3.bytes:Int)+(aG x:Nat)))∧w'.cell? ⟨p,0,none⟩=some (.int .i64 (bP s3:Nat))∧w'.cell? ⟨p,1,none⟩=some (.bool false)∧w'.cell? ⟨p,2,none⟩=some (.bool false)∧w'.cell? ⟨p,3,none⟩=some (.bool false)∧w'.cell? ⟨p,4,none⟩=some (.int .i64 0)∧w'.cell? ⟨p,5,none⟩=some (.bool x.s)∧w'.cell? ⟨p,6,none⟩=some (.bool x.e)∧w'.cell? ⟨p,7,none⟩=some (.slice Ap x.ps.length cp)) [43] (by kernel_rfl) ?_;refine aY 0 rfl hHeld ?_
      try simp only[Act.put,aB,aC,ax,ay,aA]
      refine aY 1 rfl hHeld ?_
      try simp only[Act.put,aB,aC,aD,ax,ay,aA]
      refine aY 2 rfl hHeld ?_
      try simp only[Act.put,aB,aC,aD,ax,ay,aA]
      refine aY 3 rfl hHeld ?_
      try simp only[Act.put,aB,aC,aD,ax,ay,aA]
      refine gV [43] 4 ?_ rfl (Or.inl ⟨by rfl,?_⟩) hHeld ?_;rotate_left
      ·intro w' hSw;obtain ⟨hS1,hS2,gH,kS,hS5,nA,rC,tu,tC,iF,MP,MR⟩:=hSw;go_simp
       try with_reducible rfl
      try simp only[Act.put,aB,aC,aD,ax,ay,aA]
      refine aY 5 rfl hHeld ?_
      try simp only[Act.put,aB,aC,aD,ax,ay,aA]
      refine aY 6 rfl hHeld ?_
      try simp only[Act.put,aB,aC,aD,ax,ay,aA]
      refine aY 7 rfl hHeld ?_
      try simp only[Act.put,aB,aC,aD,ax,ay,aA]
      refine aY 8 rfl hHeld ?_
      try simp only[Act.put,aB,aC,aD,ax,ay,aA]
      refine gV [43,42,23,22,11,10] 9 ?_ rfl (Or.inl ⟨by rfl,?_⟩) hHeld ?_;rotate_left
      ·intro w' hSw;obtain ⟨hS1,hS2,gH,kS,hS5,nA,rC,tu,tC,iF,MP,MR⟩:=hSw;go_simp
       try with_reducible rfl
      try simp only[Act.put,aB,aC,aD,ax,ay,aA]
      refine wL 10 (.bool bA) rfl (Or.inl ⟨by rfl,?_⟩) hHeld ?_
      ·intro w' hSw;go_simp
       try with_reducible rfl
      try simp only[Act.put,aB,aC,aD,ax,ay,aA]
      refine aY 11 rfl hHeld ?_
      try simp only[Act.put,aB,aC,aD,ax,ay,aA]
      refine wL 12 (cond bA (.pointer (some ⟨g,0,none⟩)) undef) rfl (YieldsIf.guard bA (fun hb=> ?_) (fun hb=> ?_)) hHeld ?_
      ·subst hb;refine Or.inl ⟨by rfl,?_⟩;intro w' hSw
       try simp only[cond_true]
       go_simp
       try with_reducible rfl
      ·subst hb;rfl
      try simp only[Act.put,aB,aC,aD,ax,ay,aA]
      refine wL 13 (cond bA (.pointer (some ⟨g,0,none⟩)) undef) rfl (YieldsIf.guard bA (fun hb=> ?_) (fun hb=> ?_)) hHeld ?_
      ·subst hb;refine Or.inl ⟨by rfl,?_⟩;intro w' hSw
       try simp only[cond_true]
       go_simp
       try with_reducible rfl
      ·subst hb;rfl
      try simp only[Act.put,aB,aC,aD,ax,ay,aA]
      refine wL 14 (cond bA (.pointer (some ⟨g,13,none⟩)) undef) rfl (YieldsIf.guard bA (fun hb=> ?_) (fun hb=> ?_)) hHeld ?_
      ·subst hb;refine Or.inl ⟨by rfl,?_⟩;intro w' hSw
       try simp only[cond_true]
       go_simp
       try with_reducible rfl
      ·subst hb;rfl
      try simp only[Act.put,aB,aC,aD,ax,ay,aA]
      refine gV [43,42,23,22,21] 15 (cond bA (.int .i64 ((s3.dN:Int)+1)) undef) rfl (YieldsIf.guard bA (fun hb=> ?_) (fun hb=> ?_)) hHeld ?_
      ·subst hb;refine Or.inl ⟨by rfl,?_⟩;intro w' hSw;obtain ⟨hS1,hS2,gH,kS,hS5,nA,rC,tu,tC,iF,MP,MR⟩:=hSw
       try simp only[cond_true]
       go_simp
       try with_reducible rfl
      ·subst hb;rfl
      try simp only[Act.put,aB,aC,aD,ax,ay,aA]
      refine wL 16 (cond bA (.pointer (some ⟨g,0,none⟩)) undef) rfl (YieldsIf.guard bA (fun hb=> ?_) (fun hb=> ?_)) hHeld ?_
      ·subst hb;refine Or.inl ⟨by rfl,?_⟩;intro w' hSw
       try simp only[cond_true]
       go_simp
       try with_reducible rfl
      ·subst hb;rfl
      try simp only[Act.put,aB,aC,aD,ax,ay,aA]
      refine wL 17 (cond bA (.pointer (some ⟨g,0,none⟩)) undef) rfl (YieldsIf.guard bA (fun hb=> ?_) (fun hb=> ?_)) hHeld ?_
      ·subst hb;refine Or.inl ⟨by rfl,?_⟩;intro w' hSw
       try simp only[cond_true]
       go_simp
       try with_reducible rfl
      ·subst hb;rfl
      try simp only[Act.put,aB,aC,aD,ax,ay,aA]
      refine wL 18 (cond bA (.pointer (some ⟨g,0,none⟩)) undef) rfl (YieldsIf.guard bA (fun hb=> ?_) (fun hb=> ?_)) hHeld ?_
      ·subst hb;refine Or.inl ⟨by rfl,?_⟩;intro w' hSw
       try simp only[cond_true]
       go_simp
       try with_reducible rfl
      ·subst hb;rfl
      try simp only[Act.put,aB,aC,aD,ax,ay,aA]
      refine wL 19 (cond bA (.pointer (some ⟨g,0,none⟩)) undef) rfl (YieldsIf.guard bA (fun hb=> ?_) (fun hb=> ?_)) hHeld ?_
      ·subst hb;refine Or.inl ⟨by rfl,?_⟩;intro w' hSw
       try simp only[cond_true]
       go_simp
       try with_reducible rfl
      ·subst hb;rfl
      try simp only[Act.put,aB,aC,aD,ax,ay,aA]
      refine gV [43,42,23,22,21] 20 (cond bA (.int .i64 c.Ny) undef) rfl (YieldsIf.guard bA (fun hb=> ?_) (fun hb=> ?_)) hHeld ?_
      ·subst hb;refine Or.inl ⟨by rfl,?_⟩;intro w' hSw;obtain ⟨hS1,hS2,gH,kS,hS5,nA,rC,tu,tC,iF,MP,MR⟩:=hSw
       try simp only[cond_true]
       go_simp
       try with_reducible rfl
      ·subst hb;rfl
      try simp only[Act.put,aB,aC,aD,ax,ay,aA]
      refine wL 21 (cond bA (.bool bE) undef) rfl (YieldsIf.guard bA (fun hb=> ?_) (fun hb=> ?_)) hHeld ?_
      ·subst hb;refine Or.inl ⟨by rfl,?_⟩;intro w' hSw
       try simp only[cond_true]
       go_simp
       try with_reducible rfl
      ·subst hb;rfl
      try simp only[Act.put,aB,aC,aD,ax,ay,aA]
      refine wL 22 (.bool pq) rfl (Or.inl ⟨by rfl,?_⟩) hHeld ?_
      ·intro w' hSw;have hq:=HPQ.out;cases bA with
       |false=>
        have hq':pq=false:=by rw[←hq];rfl
        subst hq';clear hq;simp only[cond_false];go_simp
       |true=>
        have hq':bE=pq:=by rw[←hq];rfl
        subst hq';clear hq;simp only[cond_true];go_simp
      try simp only[Act.put,aB,aC,aD,ax,ay,aA]
      refine aY 23 rfl hHeld ?_
      try simp only[Act.put,aB,aC,aD,ax,ay,aA]
      refine wL 24 (cond (!pq) (.pointer (some ⟨g,0,none⟩)) undef) rfl (YieldsIf.guard (!pq) (fun hb=> ?_) (fun hb=> ?_)) hHeld ?_
      ·have hb1:pq=false:=by simpa using hb
       subst hb1;refine Or.inl ⟨by rfl,?_⟩;intro w' hSw
       try simp only[Bool.not_false,cond_true]
       go_simp
       try with_reducible rfl
      ·have hb1:pq=true:=by simpa using hb
       subst hb1;rfl
      try simp only[Act.put,aB,aC,aD,ax,ay,aA]
      refine wL 25 (cond (!pq) (.pointer (some ⟨g,0,none⟩)) undef) rfl (YieldsIf.guard (!pq) (fun hb=> ?_) (fun hb=> ?_)) hHeld ?_
      ·have hb1:pq=false:=by simpa using hb
       subst hb1;refine Or.inl ⟨by rfl,?_⟩;intro w' hSw
       try simp only[Bool.not_false,cond_true]
       go_simp
       try with_reducible rfl
      ·have hb1:pq=true:=by simpa using hb
       subst hb1;rfl
      try simp only[Act.put,aB,aC,aD,ax,ay,aA]
      refine wL 26 (cond (!pq) (.pointer (some ⟨g,0,none⟩)) undef) rfl (YieldsIf.guard (!pq) (fun hb=> ?_) (fun hb=> ?_)) hHeld ?_
      ·have hb1:pq=false:=by simpa using hb
       subst hb1;refine Or.inl ⟨by rfl,?_⟩;intro w' hSw
       try simp only[Bool.not_false,cond_true]
       go_simp
       try with_reducible rfl
      ·have hb1:pq=true:=by simpa using hb
       subst hb1;rfl
      try simp only[Act.put,aB,aC,aD,ax,ay,aA]
      refine wL 27 (cond (!pq) (.pointer (some ⟨g,1,none⟩)) undef) rfl (YieldsIf.guard (!pq) (fun hb=> ?_) (fun hb=> ?_)) hHeld ?_
      ·have hb1:pq=false:=by simpa using hb
       subst hb1;refine Or.inl ⟨by rfl,?_⟩;intro w' hSw
       try simp only[Bool.not_false,cond_true]
       go_simp
       try with_reducible rfl
      ·have hb1:pq=true:=by simpa using hb
       subst hb1;rfl
      try simp only[Act.put,aB,aC,aD,ax,ay,aA]
      refine gV [43,42,41,30,29] 28 (cond (!pq) (.int .i64 c.byte) undef) rfl (YieldsIf.guard (!pq) (fun hb=> ?_) (fun hb=> ?_)) hHeld ?_
      ·have hb1:pq=false:=by simpa using hb
       subst hb1;refine Or.inl ⟨by rfl,?_⟩;intro w' hSw;obtain ⟨hS1,hS2,gH,kS,hS5,nA,rC,tu,tC,iF,MP,MR⟩:=hSw
       try simp only[Bool.not_false,cond_true]
       go_simp
       try with_reducible rfl
      ·have hb1:pq=true:=by simpa using hb
       subst hb1;rfl
      try simp only[Act.put,aB,aC,aD,ax,ay,aA]
      refine wL 29 (cond (!pq) (.bool bB) undef) rfl (YieldsIf.guard (!pq) (fun hb=> ?_) (fun hb=> ?_)) hHeld ?_
      ·have hb1:pq=false:=by simpa using hb
       subst hb1;refine Or.inl ⟨by rfl,?_⟩;intro w' hSw
       try simp only[Bool.not_false,cond_true]
       go_simp
       try with_reducible rfl
      ·have hb1:pq=true:=by simpa using hb
       subst hb1;rfl
      try simp only[Act.put,aB,aC,aD,ax,ay,aA]
      refine wL 30 (cond (!pq) (.bool bB) undef) rfl (YieldsIf.guard (!pq) (fun hb=> ?_) (fun hb=> ?_)) hHeld ?_
      ·have hb1:pq=false:=by simpa using hb
       subst hb1;refine Or.inl ⟨by rfl,?_⟩;intro w' hSw
       try simp only[Bool.not_false,cond_true]
       go_simp
       try with_reducible rfl
      ·have hb1:pq=true:=by simpa using hb
       subst hb1;rfl
      try simp only[Act.put,aB,aC,aD,ax,ay,aA]
      refine wL 31 (cond (!pq&&bB) (.pointer (some ⟨g,0,none⟩)) undef) rfl (YieldsIf.guard (!pq&&bB) (fun hb=> ?_) (fun hb=> ?_)) hHeld ?_
      ·obtain ⟨hb1,rfl⟩:pq=false∧bB=true:=by simpa using hb
       subst hb1;refine Or.inl ⟨by rfl,?_⟩;intro w' hSw
       try simp only[Bool.not_false,cond_true]
       go_simp
       try with_reducible rfl
      ·cases pq<;>cases bB<;>first|rfl|(cases hb)
      try simp only[Act.put,aB,aC,aD,ax,ay,aA]
      refine wL 32 (cond (!pq&&bB) (.pointer (some ⟨g,0,none⟩)) undef) rfl (YieldsIf.guard (!pq&&bB) (fun hb=> ?_) (fun hb=> ?_)) hHeld ?_
      ·obtain ⟨hb1,rfl⟩:pq=false∧bB=true:=by simpa using hb
       subst hb1;refine Or.inl ⟨by rfl,?_⟩;intro w' hSw
       try simp only[Bool.not_false,Bool.and_self,cond_true]
       go_simp
       try with_reducible rfl
      ·cases pq<;>cases bB<;>first|rfl|(cases hb)
      try simp only[Act.put,aB,aC,aD,ax,ay,aA]
      refine wL 33 (cond (!pq&&bB) (.pointer (some ⟨g,14,none⟩)) undef) rfl (YieldsIf.guard (!pq&&bB) (fun hb=> ?_) (fun hb=> ?_)) hHeld ?_
      ·obtain ⟨hb1,rfl⟩:pq=false∧bB=true:=by simpa using hb
       subst hb1;refine Or.inl ⟨by rfl,?_⟩;intro w' hSw
       try simp only[Bool.not_false,Bool.and_self,cond_true]
       go_simp
       try with_reducible rfl
      ·cases pq<;>cases bB<;>first|rfl|(cases hb)
      try simp only[Act.put,aB,aC,aD,ax,ay,aA]
      refine gV [43,42,41,40] 34 (cond (!pq&&bB) (.int .i64 ((s3.bytes:Int)+(aG x:Nat))) undef) rfl (YieldsIf.guard (!pq&&bB) (fun hb=> ?_) (fun hb=> ?_)) hHeld ?_
      ·obtain ⟨hb1,rfl⟩:pq=false∧bB=true:=by simpa using hb
       subst hb1;refine Or.inl ⟨by rfl,?_⟩;intro w' hSw;obtain ⟨hS1,hS2,gH,kS,hS5,nA,rC,tu,tC,iF,MP,MR⟩:=hSw
       try simp only[Bool.not_false,Bool.and_self,cond_true]
       go_simp
       try with_reducible rfl
      ·cases pq<;>cases bB<;>first|rfl|(cases hb)
      try simp only[Act.put,aB,aC,aD,ax,ay,aA]
      refine wL 35 (cond (!pq&&bB) (.pointer (some ⟨g,0,none⟩)) undef) rfl (YieldsIf.guard (!pq&&bB) (fun hb=> ?_) (fun hb=> ?_)) hHeld ?_
      ·obtain ⟨hb1,rfl⟩:pq=false∧bB=true:=by simpa using hb
       subst hb1;refine Or.inl ⟨by rfl,?_⟩;intro w' hSw
       try simp only[Bool.not_false,Bool.and_self,cond_true]
       go_simp
       try with_reducible rfl
      ·cases pq<;>cases bB<;>first|rfl|(cases hb)
      try simp only[Act.put,aB,aC,aD,ax,ay,aA]
      refine wL 36 (cond (!pq&&bB) (.pointer (some ⟨g,0,none⟩)) undef) rfl (YieldsIf.guard (!pq&&bB) (fun hb=> ?_) (fun hb=> ?_)) hHeld ?_
      ·obtain ⟨hb1,rfl⟩:pq=false∧bB=true:=by simpa using hb
       subst hb1;refine Or.inl ⟨by rfl,?_⟩;intro w' hSw
       try simp only[Bool.not_false,Bool.and_self,cond_true]
       go_simp
       try with_reducible rfl
      ·cases pq<;>cases bB<;>first|rfl|(cases hb)
      try simp only[Act.put,aB,aC,aD,ax,ay,aA]
      refine wL 37 (cond (!pq&&bB) (.pointer (some ⟨g,0,none⟩)) undef) rfl (YieldsIf.guard (!pq&&bB) (fun hb=> ?_) (fun hb=> ?_)) hHeld ?_
      ·obtain ⟨hb1,rfl⟩:pq=false∧bB=true:=by simpa using hb
       subst hb1;refine Or.inl ⟨by rfl,?_⟩;intro w' hSw
       try simp only[Bool.not_false,Bool.and_self,cond_true]
       go_simp
       try with_reducible rfl
      ·cases pq<;>cases bB<;>first|rfl|(cases hb)
      try simp only[Act.put,aB,aC,aD,ax,ay,aA]
      refine wL 38 (cond (!pq&&bB) (.pointer (some ⟨g,1,none⟩)) undef) rfl (YieldsIf.guard (!pq&&bB) (fun hb=> ?_) (fun hb=> ?_)) hHeld ?_
      ·obtain ⟨hb1,rfl⟩:pq=false∧bB=true:=by simpa using hb
       subst hb1;refine Or.inl ⟨by rfl,?_⟩;intro w' hSw
       try simp only[Bool.not_false,Bool.and_self,cond_true]
       go_simp
       try with_reducible rfl
      ·cases pq<;>cases bB<;>first|rfl|(cases hb)
      try simp only[Act.put,aB,aC,aD,ax,ay,aA]
      refine gV [43,42,41,40] 39 (cond (!pq&&bB) (.int .i64 c.byte) undef) rfl (YieldsIf.guard (!pq&&bB) (fun hb=> ?_) (fun hb=> ?_)) hHeld ?_
      ·obtain ⟨hb1,rfl⟩:pq=false∧bB=true:=by simpa using hb
       subst hb1;refine Or.inl ⟨by rfl,?_⟩;intro w' hSw;obtain ⟨hS1,hS2,gH,kS,hS5,nA,rC,tu,tC,iF,MP,MR⟩:=hSw
       try simp only[Bool.not_false,Bool.and_self,cond_true]
       go_simp
       try with_reducible rfl
      ·cases pq<;>cases bB<;>first|rfl|(cases hb)
      try simp only[Act.put,aB,aC,aD,ax,ay,aA]
      refine wL 40 (cond (!pq&&bB) (.bool bC) undef) rfl (YieldsIf.guard (!pq&&bB) (fun hb=> ?_) (fun hb=> ?_)) hHeld ?_
      ·obtain ⟨hb1,rfl⟩:pq=false∧bB=true:=by simpa using hb
       subst hb1;refine Or.inl ⟨by rfl,?_⟩;intro w' hSw
       try simp only[Bool.not_false,Bool.and_self,cond_true]
       go_simp
       try with_reducible rfl
      ·cases pq<;>cases bB<;>first|rfl|(cases hb)
      try simp only[Act.put,aB,aC,aD,ax,ay,aA]
      refine wL 41 (cond (!pq) (.bool q2) undef) rfl (YieldsIf.guard (!pq) (fun hb=> ?_) (fun hb=> ?_)) hHeld ?_
      ·have hb1:pq=false:=by simpa using hb
       subst hb1;refine Or.inl ⟨by rfl,?_⟩;intro w' hSw;have hq:=HQ2.out;cases bB with
       |false=>
        have hq':q2=false:=by rw[←hq];rfl
        subst hq';clear hq;simp only[Bool.not_false,Bool.and_false,cond_true,cond_false];go_simp
       |true=>
        have hq':bC=q2:=by rw[←hq];rfl
        subst hq';clear hq;simp only[Bool.not_false,Bool.and_self,cond_true];go_simp
      ·have hb1:pq=true:=by simpa using hb
       subst hb1;rfl
      try simp only[Act.put,aB,aC,aD,ax,ay,aA]
      refine wL 42 (.bool b) rfl (Or.inl ⟨by rfl,?_⟩) hHeld ?_
      ·intro w' hSw;have hq:=Pg.out;cases pq with
       |false=>
        have hq':b=q2:=by rw[hq];rfl
        subst hq';clear hq;simp only[Bool.not_false,cond_true];go_simp
       |true=>
        have hq':b=true:=by rw[hq];rfl
        subst hq';clear hq;simp only[Bool.not_true,cond_false];go_simp
      try simp only[Act.put,aB,aC,aD,ax,ay,aA]
      refine bD (i:=43) rfl (by kernel_rfl) (by kernel_rfl) (by rfl) (fun K hK=> ?_);go_simp;refine (GQ.out).mono ?_;rintro e7 w7 ⟨v7,rfl,hv7,K6⟩;refine hK _ _ ?_;clear hK K
      try simp only[Act.put,aB,aC,aD,ax,ay,aA]
      refine qT 44 rfl ?_
      try simp only[Act.put,aB,aC,aD,ax,ay,aA]
      have q45:=(IB.out.drew.kept K6.kept NB.out).cell 0;have r45:=(IB.out.drew.kept K6.kept NB.out).frozen 0;simp only[List.getElem?_toArray,List.getElem?_cons_zero] at q45;refine bD (i:=45) rfl (by kernel_rfl) (by kernel_rfl) (by rfl) (fun K hK=> ?_);go_simp;refine hK _ _ ?_;clear hK K
      try simp only[Act.put,aB,aC,aD,ax,ay,aA]
      refine bu (by kernel_rfl) ?_ _;refine NoPanic.normal ?_;go_wp2_with fail;go_meet;exact ⟨w7,rfl,hv7,K6⟩
     case rest=>
     obtain ⟨W',rfl,abf,abg⟩:=hcut;have IE:kX w2 D F g c (dh c (eU s3 x) b).1 W':=kX.step lX.out HD3.out JG.out (kX.step TT.out.drew XL.out HF9.out abg);have Qi:x.sn=bP s3:=Qe.out.2.2.2;have hbq:=HB.out;have hRr:=HRR.out;rw[←hbq,Qi] at hRr;have XM:w2.heap.size≤zV.heap.size:=Nat.le_trans lX.out.size TT.out.size;obtain ⟨q9,Qd⟩:=Ez (R:=R) (bs:=xC (bP s3) (dh c (eU s3 x) b).2 false false 0 x.s x.e x.ps) HKK.out qW.out (aN) hDn HH.out.lt HH.out.sub IE (aU abf XM) (by rw[←hRr]) (by rw[←hRr];rfl) (by rw[←hRr]);have XA:=ah Qd;have XB:=ah q9;clear EB BN TT K9 nK JZ TS Da GH XL HF9 Sb GV Qh Qf Qe XK Bg XJ XI Rh hbx E4 SC xJ JX PY rD TM HRR Cg pG TN Iz AQ Bz HS TQ TR HXS HX HXA TK TL XE zG K8 TJ TI wh HI3 HB3 Rk lX HD3 JG Xz JK vX HKK qW YQ HR HF C9 HI1 HT IB HB1 rH HH kW HB Ve GQ abf abg IE hRr Qd q9 hbq y0 y1 y13 CG p0 p1 p2 p3 p4 p5 p6 p7;generalize xC (bP s3) (dh c (eU s3 x) b).2 false false 0 x.s x.e x.ps=bsx at*;go_wp2;refine leaves_cons (f:=76) (args:= #[.pointer (some ⟨w.heap.size,0,none⟩)]) (by simp) (by simp[go_sem]) ?_;refine (eZ _ _).mono ?_;rintro e9 u9 w9 ⟨rfl,rfl,rfl⟩;have q:=XB.out;exact ⟨.tuple #[_,.int .i64 0],by simp[results,Tryz.results55,go_sem,q],XA.out⟩
 ·have nS:=qW.out.kept hO3.kept hDn;have PN:=ah hO3;have vX:=ah nS;have hRr:=HR.out;rw[GU HF.out hn hf3] at hRr;have JK:=ah hRr;clear nS hO3 hf3 hRr;go_wp2;refine leaves_cons (f:=76) (args:= #[.pointer (some ⟨w.heap.size,0,none⟩)]) (by simp) (by simp[go_sem]) ?_;refine (jK _ _ w3 vX.out).mono ?_;rintro e9 u9 w9 ⟨rfl,rfl,rfl⟩;have q:=((vX.out.alloc (.cells #[] 191)).av 0 (.int .i64 8)).cell 0;simp at q;refine ⟨.tuple #[.slice none 0 0,.int .i64 8],by simp[results,Tryz.results55,go_sem,q],?_⟩;rw[←JK.out];refine JS rfl rfl ?_;exact (PN.out.alloc _).put HKK.out (aN) qW.out.lt HH.out.lt HH.out.sub 0 _
end
end
section
open Go.RowKit Go.Shelf
attribute [local go_sem] Oper.semAt_some
section
variable {D F:Nat→Prop} {g:Nat} {c:Cf} {st:Sd} {vq vo:Value} {vs os:List Value} {w:World}
def behind (st:Sd) (m:Int) (x:Nk):Bool:=decide (m≤dW st x.sn)
set_option maxRecDepth 10000 in
set_option maxHeartbeats 1000000 in
theorem PI (h:dV w D F g c st vq vs vo os) (h1:st.first<1024) (bs bn:Nat) (m:Int) (hs:au w bs 49 #[.pointer (some ⟨g,0,none⟩)]) (hn:au w bn 3 #[.int .i64 m]) (x:Nk) (hx:0≤x.sn∧x.sn≤1023):
 Calls Tryz.prog 144 #[.agg (j6 x),.pointer (some ⟨bs,0,none⟩),.pointer (some ⟨bn,0,none⟩)] w fun e w'=>e= .returned (.bool (behind st m x))∧Below w.heap.size w w':=by
 have hB:Below w.heap.size w (w.alloc (.cells (j6 x) 197)):=(Below.refl _ w).alloc (aN) _;have s0:=(hs.below hB hs.lt).cell 0;have n0:=(hn.below hB hn.lt).cell 0;have hA:=h.below hB;have Bo:=ah (fun (k:Nat)=>rY (hA.drewN k) h1 x.sn hx);have HB:=ah hB;simp[j6] at s0 n0;have b0:(w.alloc (.cells (j6 x) 197)).cell? ⟨w.heap.size,0,none⟩=some (.int .i64 x.sn):=(au.new w 197 (j6 x)).cell 0;clear hA h hs hn hB;unfold j6 at*;go_enter Tryz.func144,Tryz.ntmps144;go_upto_region 1 with (fail)
 generalize w.alloc (.cells #[.int .i64 x.sn,.bool x.part,.int .i64 x.fr,.int .i64 x.lt] 197)=w1 at*
 go_quiet ((go_at_call 142;exact Calls.quiet_of_same ((Bo.out _).mono fun _ _ hh=>⟨hh.1,hh.2.symm⟩)))
 go_wp2;go_ret;exact ⟨rfl,HB.out.drewN _⟩
set_option maxRecDepth 10000 in
set_option maxHeartbeats 1000000 in
theorem PK (h:dV w D F g c st vq vs vo os) (h1:st.first<1024) (bs bn:Nat) (m:Int) (hs:au w bs 49 #[.pointer (some ⟨g,0,none⟩)]) (hn:au w bn 3 #[.int .i64 m])
 (A:Option Addr) (n cc:Nat) (l:List Nk) (hN:bM w A n cc l) (hx:∀x∈l,0≤x.sn∧x.sn≤1023):
 Calls Tryz.prog 184 #[.slice A n cc,.func (.func 144) #[] #[.pointer (some ⟨bs,0,none⟩),.pointer (some ⟨bn,0,none⟩)]] w
  fun e w'=>(∃i:Int,e= .returned (.int .i64 i)∧decide (0≤i)=l.any (behind st m))∧Below w.heap.size w w':=by
 have hcap:=hN.cap;have hmx:=hN.mx;have HL:=ah hN.len;have HN:=ah hN;have HC:=ah (fun (W:World) (hW:Below w.heap.size w W) (x:Nk) (hx:0≤x.sn∧x.sn≤1023)=>PI (h.below hW) h1 bs bn m (hs.below hW hs.lt) (hn.below hW hn.lt) x hx);have HX:=ah hx;clear h hs hn hN hx;unfold j6 at HC;go_enter Tryz.func184,Tryz.ntmps184;go_wp2
 go_loopw [8] (fun i wr=>∃k:Nat,k≤n∧i= .int .i64 k∧Below w.heap.size w wr∧∀(j:Nat) (y:Nk),j<k→l[j]? =some y→behind st m y=false) (fun i _=>n-(intOf i).toNat)
 case atStart=>exact ⟨0,Nat.zero_le _,rfl,Below.refl _ _,fun j y hj=>by omega⟩
 case round=>
  obtain ⟨k,hk,rfl,hb,hall⟩:=hrel;have HA:=ah hall;clear hall;by_cases hlt:k<n
  ·obtain ⟨x,hx⟩:∃x,l[k]? =some x:=⟨_,List.getElem?_eq_getElem (by have:=HL.out;omega)⟩
   obtain ⟨ad,rfl,Bh,hcl⟩:=(HN.out.below hb).at_ (by omega);obtain ⟨k0,k1,k2,k3⟩:=hcl k x hx;have hcall:=HC.out wr hb x (HX.out x (List.mem_of_getElem? hx));have HK:=ah hx;have HCC:=ah hcall;have HB:=ah hb;clear hx hcl hcall hb;go_wp2_with fail;refine HCC.out.mono ?_;rintro e1 w1 ⟨rfl,hb1⟩;have HB1:=ah (HB.out.trans (hb1.mono HB.out.size));clear hb1 k0 k1 k2 k3;cases hq:behind st m x with
   |false=>
    have HQ:=ah hq;clear hq;go_wp2
    go_round
    case rel=>
     refine ⟨k+1,by omega,by go_num,HB1.out,fun j y hj hy=> ?_⟩;rcases Nat.lt_or_ge j k with h2|h2
     ·exact HA.out j y h2 hy
     ·rw[show j=k by omega,HK.out] at hy;cases hy;exact HQ.out
    case measure=>simp[intOf];omega
   |true=>
    have HQ:=ah hq;clear hq;go_wp2;go_ret;refine ⟨⟨_,rfl,?_⟩,HB1.out⟩;rw[List.any_eq_true.2 ⟨x,List.mem_of_getElem? HK.out,HQ.out⟩];simp
  ·have HB:=ah hb;clear hb;go_wp2;go_ret;refine ⟨⟨_,rfl,?_⟩,HB.out⟩;have:l.any (behind st m)=false:=by
    rw[List.any_eq_false];intro y hy;obtain ⟨j,hj⟩:=List.mem_iff_getElem?.1 hy;have:=HA.out j y (by have:=(List.getElem?_eq_some_iff.1 hj).1;have:=HL.out;omega) hj;simp[this]
   rw[this];rfl
theorem My (h:dV w D F g c st vq vs vo os) (h1:st.first<1024) (bs bn:Nat) (m:Int) (hs:au w bs 49 #[.pointer (some ⟨g,0,none⟩)]) (hn:au w bn 3 #[.int .i64 m])
 (A:Option Addr) (n cc:Nat) (l:List Nk) (hN:bM w A n cc l) (hx:∀x∈l,0≤x.sn∧x.sn≤1023):
 Calls Tryz.prog 143 #[.slice A n cc,.func (.func 144) #[] #[.pointer (some ⟨bs,0,none⟩),.pointer (some ⟨bn,0,none⟩)]] w
  fun e w'=>e= .returned (.bool (l.any (behind st m)))∧Below w.heap.size w w':=by
 have hix:=PK h h1 bs bn m hs hn A n cc l hN hx;have Nz:=ah hix;clear h hs hn hN hx hix;go_enter Tryz.func143,Tryz.ntmps143;go_wp2_with fail;refine Nz.out.mono ?_;rintro e1 w1 ⟨⟨i,rfl,hi⟩,hb⟩;have HI:=ah hi;have HB:=ah hb;clear hi hb;go_wp2;go_ret;exact ⟨bI HI.out,HB.out⟩
end
end
end Go.Proofs.YtbhiklnljiehiaaGreat
