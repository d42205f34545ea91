/- amsend: Grant, the calls that give no new PDU. -/
import Derived.Test.YtiecgfahidpldaaGreatM3ah
import Derived.Test.YtiecgfahidpldaaGreatM3ai
import Derived.Test.YtiecgfahidpldaaGreatM3aj
import Derived.Deep.RegionHeld3
import Derived.StillTailTactics
import Derived.Deep.DeepCutAuto
namespace Go.Proofs.YtiecgfahidpldaaGreat
section
open Go.RowKit Go.Shelf
attribute [local go_sem] Oper.semAt_some
section
variable {D F:Nat→Prop} {g:Nat} {c:Cf} {st:Sd} {vq vo:Value} {vs os:List Value} {w:World}
theorem YieldsIf.guard {P:Program} {ops:Array Oper} {S:World→Prop} {o:Oper} {v:Value} {a:Act} (b:Bool) (h1:b=true→YieldsIf P ops S o v a) (h2:b=false→Region.wanted o (yielded ops a.tmps)=false):YieldsIf P ops S o (cond b v undef) a:=by
 cases b with
 |true=>exact h1 rfl
 |false=>exact .inr ⟨h2 rfl,rfl⟩
theorem QY:(Tryz.prog.info? 118).map (fun i=>(i.zero,i.size,i.bytes))=some (some (.pointer none),1,8):=by kernel_rfl
theorem FH:∃i,Tryz.prog.info? 118=some i∧i.zero=some (.pointer none)∧i.size=1∧i.bytes=8:=by
 have h:=QY;cases hi:Tryz.prog.info? 118 with
 |none=>rw[hi] at h;cases h
 |some i=>
  rw[hi] at h;simp only[Option.map_some,Option.some.injEq,Prod.mk.injEq] at h;exact ⟨i,rfl,h.1,h.2.1,h.2.2⟩
theorem NQ:Tryz.prog.underlying 111=some (.slice 118):=by kernel_rfl
theorem gK.drew {p:Nat} {x:Ou} {Ap Ar:Option Addr} {cp cr:Nat} {vp:List Value} (h:gK w D F p x Ap cp vp Ar cr):gK w.drew D F p x Ap cp vp Ar cr:=h.drewN 1
def FJ (w:World) (D F:Nat→Prop) (g:Nat) (c:Cf) (R:Sd × Option Pu × Int) (e:Ending) (w':World):Prop:=
 ∃v,e= .returned (.tuple #[v,.int .i64 R.2.2])∧w'.ownsRow w.heap.size 5 1 v (QU R.2.1).length (cu (QU R.2.1))∧lZ w D F g c R.1 w'
theorem I8 {R:Sd × Option Pu × Int} {w':World} {er:Int} (h1:R.2.1=none) (h2:R.2.2=er) (h3:lZ w D F g c R.1 w'):FJ w D F g c R (.returned (.tuple #[.slice none 0 0,.int .i64 er])) w':=
 ⟨_,by rw[h2],by rw[h1];exact World.ownsRow_nil _ _ _ _,h3⟩
def rT (c:Cf) (s1:Sd) (n:Int):Sd × Option Pu:=
 match fV s1.out with
  |some i=>match s1.out[i]? with
   |some x=>iD c n s1 i x
   |none=>(s1,none)
  |none=>match iQ c n s1 with
   |(s2,none)=>(s2,none)
   |(s2,some (x,b))=>(s2,some ⟨x.sn,b,false,false,0,x.s,x.e,x.ps⟩)
theorem I9 {c:Cf} {st:Sd} {now n:Int} (h1:st.failed=false) (h2:0≤n) (h3:(gG c st now).failed=false):dw c st now n=((rT c (gG c st now) n).1,(rT c (gG c st now) n).2,0):=by
 unfold dw kU rT;rw[if_neg (by simp[h1]),if_neg (by omega),if_neg (by simp[h3])];cases hp:fV (gG c st now).out with
 |some i=>
  obtain ⟨x,hx,_⟩:=iC hp;simp only[hx];simp
 |none=>
  dsimp only;generalize iQ c n (gG c st now)=R;obtain ⟨s2,_|⟨x,b⟩⟩:=R
  ·simp
  ·simp
theorem FL {c:Cf} {st:Sd} {now n:Int} (h1:st.failed=false) (h2:0≤n) (h3:(gG c st now).failed=true):dw c st now n=(gG c st now,none,8):=by
 unfold dw kU;rw[if_neg (by simp[h1]),if_neg (by omega),if_pos h3];rfl
theorem DT {W W':World} {be:Nat} {v4:Value} {s1:Sd} {bs:List UInt8} {v:Value} {R:Sd × Option Pu × Int} (hk:Kept (fun k _=>D k) w W) (hb:aA W be 35 #[v4]) (hbw:w.heap.size≤be) (hD:¬D be) (hF:∀k,F k→k<w.heap.size) (hDF:∀k,D k→F k)
 (hO:lZ W D F g c s1 W') (hv:W'.ownsRow W.heap.size 5 1 v bs.length (cu bs)) (h1:R.1=s1) (h2:QU R.2.1=bs) (h3:R.2.2=0):
 (W'.setCell ⟨be,0,none⟩ (.int .i64 0)).cell? ⟨be,0,none⟩=some (.int .i64 0)∧FJ w D F g c R (.returned (.tuple #[v,.int .i64 0])) (W'.setCell ⟨be,0,none⟩ (.int .i64 0)):=by
 have hb':=hb.kept hO.kept hD;have:=(hb'.aC 0 (.int .i64 0)).cell 0;refine ⟨by simpa using this,v,by rw[h3],?_,?_⟩
 ·rw[h2];exact aW (aO (i:=0) hv hb' (by decide) _) hk.size
 ·rw[h1];exact hO.put hk hbw hb.lt hF hDF 0 _
set_option maxRecDepth 100000 in
set_option maxHeartbeats 1000000 in
theorem DU (h:dY w D F g c st vq vs vo os) (ht:1≤c.timer) (now n:Int) (hx:st.failed=true∨n<0):
 Calls Tryz.prog 50 #[.pointer (some ⟨g,0,none⟩),.int .i64 now,.int .i64 n] w (FJ w D F g c (dw c st now n)):=by
 have hA:=h.alloc (.cells #[.int .i64 0] 35);have hch:=gL hA ht;have oF:=Lib.hid hch;have HH:=Lib.hid h;cases hf:st.failed with
 |true=>
  rw[hf] at oF;have hfin:dw c st now n=(st,none,8):=by unfold dw;rw[if_pos hf]
  rw[hfin];simp only[if_pos] at oF;clear h hA hch hf hfin hx
  go_enter_defers Tryz.func50,Tryz.ntmps50
  go_wp2_with fail;refine oF.out.mono ?_;rintro e1 w1 ⟨rfl,rfl⟩;go_wp2
  go_region
  go_wp2;refine ⟨.tuple #[.slice none 0 0,.int .i64 8],by simp[results,Tryz.results50,go_sem],I8 rfl rfl ?_⟩;exact ((HH.out.alloc _).o ((Kept.refl _ w).alloc _)).drewN 1
 |false=>
  have hn:n<0:=by
   rcases hx with h|h
   ·rw[hf] at h;cases h
   ·exact h
  rw[hf] at oF;have hfin:dw c st now n=(st,none,2):=by unfold dw;rw[if_neg (by simp[hf]),if_pos hn]
  rw[hfin];simp only[Bool.false_eq_true,if_false] at oF;clear h hA hch hf hfin hx
  go_enter_defers Tryz.func50,Tryz.ntmps50
  go_wp2_with fail;refine oF.out.mono ?_;rintro e1 w1 ⟨rfl,rfl⟩;go_wp2;refine ⟨.tuple #[.slice none 0 0,.int .i64 2],by simp[results,Tryz.results50,go_sem],I8 rfl rfl ?_⟩;exact (HH.out.alloc _).o ((Kept.refl _ w).alloc _)
set_option maxRecDepth 100000 in
set_option maxHeartbeats 40000000 in
theorem Ja (h:dY w D F g c st vq vs vo os) (ht:M8 c) {K:Nat} (hB:jL st K) (hK:K≤90000) (hI:dm st) (hf:st.failed=false) (now n:Int) (iR:now≤9223372036854775807) (hn:0≤n) (hn2:n≤9223372036854775807):
 Calls Tryz.prog 50 #[.pointer (some ⟨g,0,none⟩),.int .i64 now,.int .i64 n] w (FJ w D F g c (dw c st now n)):=by
 have hA:=h.alloc (.cells #[.int .i64 0] 35);have hch:=gL hA ht.timer.1;rw[hf] at hch;simp only[Bool.false_eq_true,if_false] at hch;have oF:=Lib.hid hch;have HH:=Lib.hid h;have hgo:=Ca hA now;have wS:=Lib.hid hgo;have hB1:=hB.clock iR;have HB1:=Lib.hid hB1;have MK:=aA.new w 35 #[.int .i64 0];have MI:=Lib.hid MK;have HT:=Lib.hid ht;have HI1:=Lib.hid (hI.tick c now);have Cn:=Lib.hid (hB.tick c iR);have hw:=hI.w;have hDn:¬D w.heap.size:=h.fresh (Nat.le_refl _);obtain ⟨R,hR⟩:∃R,dw c st now n=R:=⟨_,rfl⟩
 rw[hR];have HR:=Lib.hid hR;have HF:=Lib.hid hf;clear h hA hch hgo hB1 MK hI hB ht hf hR
 go_enter_defers Tryz.func50,Tryz.ntmps50
 go_wp2_with fail;refine oF.out.mono ?_;rintro e1 w1 ⟨rfl,rfl⟩;go_wp2_with fail;refine wS.out.mono ?_;rintro e2 w2 ⟨rfl,hA2,hk2⟩;have hex:=DF hA2 HB1.out (by omega) hw HF.out;have Bd:=MI.out.kept hk2 hDn;have HEX:=Lib.hid hex;have yY:=Lib.hid Bd;have hkk:Kept (fun k _=>D k) w w2:=((Kept.refl _ w).alloc _).trans hk2;have HKK:=Lib.hid hkk;have hz2:w.heap.size<w2.heap.size:=Bd.lt;clear hA2 hex Bd hk2 hkk;go_wp2_with fail;refine HEX.out.mono ?_;rintro e3 w3 ⟨⟨hf3,rfl⟩|⟨hf3,rfl⟩,hO3⟩
 ·have yZ:=yY.out.kept hO3.kept hDn;have hRr:=HR.out;rw[I9 HF.out hn hf3] at hRr;have Jb:=Lib.hid hRr;have Be:=Lib.hid yZ;obtain ⟨D3,F3,vq3,vs3,vo3,os3,hA3,hD3,hF3,hk3⟩:=hO3;have hts:fZ c (fu st now)=gG c st now:=rfl;rw[hts] at hA3 hf3;have YX:=HI1.out;have hB3:=Cn.out;generalize gG c st now=s3 at*;have YY:Kept (fun k _=>D k) w w3:=HKK.out.trans hk3;have vw:=Lib.hid hA3;have HD3:=Lib.hid hD3;have NR:=Lib.hid hF3;have lI:=Lib.hid hk3;have Vl:=Lib.hid YY;have hpn:=tu hA3 (by have:=YX.w;omega);have P6:=Lib.hid hpn;have HI3:=Lib.hid YX;have HB3:=Lib.hid hB3;have YZ:=YX.w;have Jc:=YX.f;unfold J7 at P6;clear yZ hRr hD3 hF3 hk3 hf3 hts hpn YX hB3 YY;cases hpa:fV s3.out with
  |some i=>
   rw[hpa] at P6;obtain ⟨x,hx,hxp,_⟩:=iC hpa;obtain ⟨p,Ap,cp,vp,Ar,cr,he,ho⟩:=hA3.oe i x hx;have hg1:os3[i]?.getD (.pointer none)= .pointer (some ⟨p,0,none⟩):=by rw[he];rfl
   simp only[hg1] at P6;have hag:=I6 hA3 HB3.out YZ Jc hx he ho hxp n hn hn2;have hgb:rT c s3 n=iD c n s3 i x:=by unfold rT;rw[hpa];simp only[hx]
   have hRr:=Jb.out;rw[hgb] at hRr;have HRR:=Lib.hid hRr;have HAG:=Lib.hid hag;clear hA3 hpa hx hxp he ho hg1 hag hgb hRr;go_wp2_with fail;refine P6.out.mono ?_;rintro e4 w4 ⟨rfl,rfl⟩;go_wp2_with fail;refine HAG.out.mono ?_;rintro e5 w5 ⟨v5,rfl,hv5,uf⟩;have yS:lZ w2 D F g c (iD c n s3 i x).1 w5:=lZ.step lI.out HD3.out NR.out uf;have FM:=yY.out.kept yS.kept hDn;obtain ⟨q9,NS⟩:=DT (R:=R) (bs:=QU (iD c n s3 i x).2) (v:=v5) HKK.out yY.out (Nat.le_refl _) hDn HH.out.lt HH.out.sub yS (aW hv5 lI.out.size) (by rw[←HRR.out]) (by rw[←HRR.out]) (by rw[←HRR.out]);have c5:=FM.cell 0;have f5:=FM.frozen 0;simp at c5;have QZ:=Lib.hid NS;have Vm:=Lib.hid q9;clear hv5 uf yS FM NS q9;go_wp2;refine leaves_cons (f:=53) (args:= #[.pointer (some ⟨w.heap.size,0,none⟩)]) (by simp) (by simp[go_sem]) ?_;refine (fH _ _).mono ?_;rintro e9 u9 w9 ⟨rfl,rfl,rfl⟩;have q:=Vm.out;exact ⟨.tuple #[v5,.int .i64 0],by simp[results,Tryz.results50,go_sem,q],QZ.out⟩
  |none=>
   rw[hpa] at P6;simp only at P6;have hgb:rT c s3 n=match iQ c n s3 with|(s2,none)=>(s2,none)|(s2,some (x,b))=>(s2,some ⟨x.sn,b,false,false,0,x.s,x.e,x.ps⟩):=by unfold rT;rw[hpa]
   have Xr:=Lib.hid hgb;have rP:=hA3.blk.cell 12;simp[dh] at rP;obtain ⟨Ao,co,rfl,hso⟩:=hA3.Ni;have TA:=hso.cap;have Y0:=hso.mx;have yZ:=Be.out;have c3:=yZ.cell 0;have f3:=yZ.frozen 0;simp at c3;have vw:=Lib.hid hA3;clear hA3 hpa hgb hso yZ;go_wp2_with fail;refine P6.out.mono ?_;rintro e4 w4 ⟨rfl,rfl⟩;by_cases Q0:512≤s3.out.length
   ·have d5:decide (512≤s3.out.length)=true:=decide_eq_true Q0;have hfr:iQ c n s3=(s3,none):=by unfold iQ;rw[if_pos Q0]
    have hgb:=Xr.out;rw[hfr] at hgb;have hRr:=Jb.out;rw[hgb] at hRr;have HRR:=Lib.hid hRr;have yS:lZ w2 D F g c s3 w3:=lZ.step lI.out HD3.out NR.out (vw.out.o (Kept.refl _ w3));obtain ⟨q9,NS⟩:=DT (R:=R) (bs:= []) (v:= .slice none 0 0) HKK.out yY.out (Nat.le_refl _) hDn HH.out.lt HH.out.sub yS (World.ownsRow_nil _ _ _ _) (by rw[←HRR.out]) (by rw[←HRR.out];rfl) (by rw[←HRR.out]);have QZ:=Lib.hid NS;have Vm:=Lib.hid q9;clear hfr hgb hRr yS NS q9;go_wp2;refine leaves_cons (f:=53) (args:= #[.pointer (some ⟨w.heap.size,0,none⟩)]) (by simp) (by simp[go_sem]) ?_;refine (fH _ _).mono ?_;rintro e9 u9 w9 ⟨rfl,rfl,rfl⟩;have q:=Vm.out;exact ⟨.tuple #[.slice none 0 0,.int .i64 0],by simp[results,Tryz.results50,go_sem,q],QZ.out⟩
   ·have d5:decide (512≤s3.out.length)=false:=decide_eq_false Q0;have hch:=K5 vw.out n hn hn2 HB3.out.Ho (by have:=HI3.out.le;have:=HB3.out.held;omega);have Q5:=Lib.hid hch;have hfr:iQ c n s3=if (dK n s3).ps= [] then (s3,none) else ((aR c (dR s3 (dK n s3)) (iU c (dR s3 (dK n s3)))).1,some (dK n s3,(aR c (dR s3 (dK n s3)) (iU c (dR s3 (dK n s3)))).2)):=by unfold iQ;rw[if_neg Q0]
    have NT:=Lib.hid hfr;clear hch hfr;go_wp2_with fail;refine Q5.out.mono ?_;rintro e5 w5 ⟨Ap,cp,sB,rfl,Lc,hb5,hsB⟩;dsimp only at Lc hsB ⊢;have hxa:(dK n s3).bS=false∧(dK n s3).pend= []∧(dK n s3).dF=0∧(dK n s3).sn=cB s3:=⟨rfl,rfl,rfl,rfl⟩;have Vn:=chunk_ok HB3.out HI3.out.toInvV n;have Vo:=BS HI3.out.toInvV n;obtain ⟨x,hx⟩:∃x,dK n s3=x:=⟨_,rfl⟩
    rw[hx] at Lc hsB hxa Vn Vo NT;simp only[hx];have HX:=Lib.hid hx;have Xt:=Lib.hid hxa;have Q6:=Lib.hid Vn;have Q7:=Lib.hid Vo;have Vp:=Lib.hid Lc;have NC:=Lib.hid hsB;have Hw:=Lib.hid hb5;have hkb:Kept (fun k _=>D3 k) w3 w5:=(Kept.of_below hb5).gX fun k o ho hm=>by have:=lt_of_heap ho;omega
    have QJ:=Lib.hid hkb;have FM:=(Be.out.below hb5 Be.out.lt).alloc (.cells #[.bool sB,.bool x.e,.slice Ap x.ps.length cp] 70);have Xu:=aA.new w5 70 #[.bool sB,.bool x.e,.slice Ap x.ps.length cp];have Ht:=(vw.out.below hb5).alloc (.cells #[.bool sB,.bool x.e,.slice Ap x.ps.length cp] 70);have hk5:=hkb.alloc (.cells #[.bool sB,.bool x.e,.slice Ap x.ps.length cp] 70);have rq:=Lc.vB ((Below.refl _ w5).alloc (Nat.le_refl _) (.cells #[.bool sB,.bool x.e,.slice Ap x.ps.length cp] 70));have hcap5:x.ps.length≤cp∧cp≤9223372036854775807:=by
     obtain ⟨vl,h1,_⟩:=Lc;exact ⟨(dZ h1).cap,(dZ h1).mx⟩
    obtain ⟨hcp1,hcp2⟩:=hcap5;have DV:=Lib.hid FM;have Jd:=Lib.hid Xu;have NU:=Lib.hid Ht;have sI:=Lib.hid hk5;have Q8:=Lib.hid rq;clear hx hxa Vn Vo Lc hsB hb5 hkb FM Xu Ht hk5 rq c3 f3 rP;by_cases hps:x.ps= []
    ·have d6:((x.ps.length:Int)==0)=true:=by rw[hps];rfl
     have hfr:=NT.out;rw[if_pos hps] at hfr;have hgb:=Xr.out;rw[hfr] at hgb;have hRr:=Jb.out;rw[hgb] at hRr;have HRR:=Lib.hid hRr;have Ql:=Lib.hid hps;have yS:lZ w2 D F g c s3 (w5.alloc (.cells #[.bool sB,.bool x.e,.slice Ap x.ps.length cp] 70)):=lZ.step lI.out HD3.out NR.out (NU.out.o sI.out);obtain ⟨q9,NS⟩:=DT (R:=R) (bs:= []) (v:= .slice none 0 0) HKK.out yY.out (Nat.le_refl _) hDn HH.out.lt HH.out.sub yS (World.ownsRow_nil _ _ _ _) (by rw[←HRR.out]) (by rw[←HRR.out];rfl) (by rw[←HRR.out]);have QZ:=Lib.hid NS;have Vm:=Lib.hid q9;clear hfr hgb hRr yS NS q9 hps;go_upto_region 15 with (fail)
     have c5:=DV.out.cell 0;have f5:=DV.out.frozen 0;have d2:(w5.alloc (.cells #[.bool sB,.bool x.e,.slice Ap x.ps.length cp] 70)).cell? ⟨w5.heap.size,2,none⟩=some (.slice Ap x.ps.length cp):=Jd.out.cell 2;simp only[List.getElem?_toArray,List.getElem?_cons_zero] at c5;generalize w5.alloc (.cells #[.bool sB,.bool x.e,.slice Ap x.ps.length cp] 70)=w6 at*;go_wp2;refine leaves_cons (f:=53) (args:= #[.pointer (some ⟨w.heap.size,0,none⟩)]) (by simp) (by simp[go_sem]) ?_;refine (fH _ _).mono ?_;rintro e9 u9 w9 ⟨rfl,rfl,rfl⟩;have q:=Vm.out;exact ⟨.tuple #[.slice none 0 0,.int .i64 0],by simp[results,Tryz.results50,go_sem,q],QZ.out⟩
    ·have hpl:0<x.ps.length:=List.length_pos_iff.2 hps;have d6:((x.ps.length:Int)==0)=false:=by simp;omega
     have hfr:=NT.out;rw[if_neg hps] at hfr;have hgb:=Xr.out;rw[hfr] at hgb;have hRr:=Jb.out;rw[hgb] at hRr;have HRR:=Lib.hid hRr;have hok:=Q6.out hps;have hsm:=Q7.out hps;have hsb:sB=x.s:=NC.out hps;subst hsb;have BM:=Lib.hid hok;have sN:=Lib.hid hsm;clear hfr hgb hRr hps hok hsm;go_upto_region 15 with (fail)
     have c5:=DV.out.cell 0;have f5:=DV.out.frozen 0;have d0:(w5.alloc (.cells #[.bool x.s,.bool x.e,.slice Ap x.ps.length cp] 70)).cell? ⟨w5.heap.size,0,none⟩=some (.bool x.s):=Jd.out.cell 0;have d1:(w5.alloc (.cells #[.bool x.s,.bool x.e,.slice Ap x.ps.length cp] 70)).cell? ⟨w5.heap.size,1,none⟩=some (.bool x.e):=Jd.out.cell 1;have d2:(w5.alloc (.cells #[.bool x.s,.bool x.e,.slice Ap x.ps.length cp] 70)).cell? ⟨w5.heap.size,2,none⟩=some (.slice Ap x.ps.length cp):=Jd.out.cell 2;simp only[List.getElem?_toArray,List.getElem?_cons_zero] at c5;have Q9:=Lib.hid ((Below.refl w5.heap.size w5).alloc (Nat.le_refl _) (.cells #[.bool x.s,.bool x.e,.slice Ap x.ps.length cp] 70));have yQ:=Lib.hid (World.size_alloc w5 (.cells #[.bool x.s,.bool x.e,.slice Ap x.ps.length cp] 70));generalize w5.alloc (.cells #[.bool x.s,.bool x.e,.slice Ap x.ps.length cp] 70)=w6 at*;go_wp2_with fail;have FE:=NU.out;have rq:=Q8.out;obtain ⟨vl6,Ra,Vq⟩:=rq;have Y1:gD w6 w6.heap.size Ap x.ps.length cp vl6 x.ps:=⟨dZ Ra,rfl,fun i q hi=>let ⟨A,cq,e,ho⟩:=Vq i q hi;⟨A,cq,e,dZ ho⟩⟩;have hxs:=BM.out.ps;have qY:∀q∈x.ps,q.length≤1099511627776:=fun q hq=>by
      have:=fJ hq;have:=hxs.sum;omega
     have hxh:=hxs.hi;have hnx:∀W,Below w6.heap.size w6 W→Calls Tryz.prog 64 #[.pointer (some ⟨g,0,none⟩)] W fun e w'=>e= .returned (.int .i64 (cB s3:Nat))∧Below w6.heap.size w6 w':=fun W hW=>
      (qR (FE.below hW) Jc (by omega)).mono fun e w' hh=>⟨hh.1,by obtain ⟨q,rfl⟩:=hh.2;exact hW.drewN q⟩
     have hsz:∀W,Below w6.heap.size w6 W→Calls Tryz.prog 72 #[.agg #[.bool x.s,.bool x.e,.slice Ap x.ps.length cp]] W fun e w'=>e= .returned (.int .i64 (ay x:Nat))∧Below w6.heap.size w6 w':=fun W hW=>
      (nL x.s x.e Ap x.ps.length cp vl6 x.ps W ((Y1.below hW).more hW.size) (by omega) qY).mono fun e w' hh=>⟨hh.1,hW.trans (hh.2.mono hW.size)⟩
     have aed:=Ra;have hl5:w5.heap.size<w6.heap.size:=by have:=yQ.out;omega
     have hS:∀W,Below w6.heap.size w6 W→(W.cell? ⟨w5.heap.size,0,none⟩=some (.bool x.s)∧W.cell? ⟨w5.heap.size,1,none⟩=some (.bool x.e)∧W.cell? ⟨w5.heap.size,2,none⟩=some (.slice Ap x.ps.length cp)):=fun W hW=>⟨(hW.cell (p:=⟨w5.heap.size,0,none⟩) hl5).trans d0,(hW.cell (p:=⟨w5.heap.size,1,none⟩) hl5).trans d1,(hW.cell (p:=⟨w5.heap.size,2,none⟩) hl5).trans d2⟩
     have Ak:=Lib.hid hnx;have wu:=Lib.hid hsz;have HS:=Lib.hid hS;have Rb:=Lib.hid Ra;have Re:=Lib.hid Vq;have HXS:=Lib.hid hxs;clear hnx hsz hS Ra Vq Y1 qY hxs FE aed;go_cut [10] from 44 to 51 (fun s10 wx=>∃p,s10= .pointer (some ⟨p,0,none⟩)∧aA wx p 120 #[.int .i64 (cB s3:Nat),.bool false,.bool false,.bool false,.int .i64 0,.bool x.s,.bool x.e,.slice Ap x.ps.length cp,.int .i64 (ay x:Nat),.bool false,.slice none 0 0,.int .i64 0]∧Below w6.heap.size w6 wx∧w6.heap.size≤p)
     case first=>
      have hb0:=Below.refl w6.heap.size w6
      go_region_held3 (fun W=>W.cell? ⟨w5.heap.size,0,none⟩=some (.bool x.s)∧W.cell? ⟨w5.heap.size,1,none⟩=some (.bool x.e)∧W.cell? ⟨w5.heap.size,2,none⟩=some (.slice Ap x.ps.length cp))
       (first|go_keep|exact HS.out _ (by assumption)|exact HS.out _ (Below.drew (by assumption))|exact HS.out _ (Below.drewN (by assumption) _))
       (first
        |(go_at_call 64;refine (Ak.out _ (by first|assumption|exact Below.drew (by assumption)|exact Below.drewN (by assumption) _)).mono ?_;rintro e7 w7 ⟨rfl,nV⟩)
        |(go_at_call 72;refine (wu.out _ (by first|assumption|exact Below.drew (by assumption)|exact Below.drewN (by assumption) _)).mono ?_;rintro e7 w7 ⟨rfl,nV⟩)
        |fail)
      all_goals
       go_wp2;go_meet;exact ⟨_,rfl,aA.new _ _ _,nV.alloc nV.size _,nV.size⟩
     case rest=>
     obtain ⟨p,rfl,hbp,hbx,aki⟩:=hcut;have hz3:=Hw.out.size;have akj:=yQ.out;have hzc:=hbx.size;have hbW:Below w3.heap.size w3 wc:=Hw.out.trans ((Q9.out.mono hz3).trans (hbx.mono (by omega)));have Rf:=NU.out.below hbx;have Vr:aN wc w3.heap.size (.slice Ap x.ps.length cp) x.ps:=aN.vB ⟨vl6,Rb.out,Re.out⟩ hbx;have hxa:=Xt.out;obtain ⟨xa1,xa2,xa3,xa4⟩:=hxa;have Vs:aA wc p 120 (uN x (.slice Ap x.ps.length cp) (.slice none 0 0)):=by
      have e:uN x (.slice Ap x.ps.length cp) (.slice none 0 0)= #[.int .i64 (cB s3:Nat),.bool false,.bool false,.bool false,.int .i64 0,.bool x.s,.bool x.e,.slice Ap x.ps.length cp,.int .i64 (ay x:Nat),.bool false,.slice none 0 0,.int .i64 0]:=by
       unfold uN;rw[xa1,xa3,xa4];rfl
      rw[e];exact hbp
     have hkW:Kept (fun k _=>D k) w2 wc:=lI.out.step ((Kept.of_below hbW).gX fun k o ho hm=>by have:=lt_of_heap ho;omega) HD3.out;have beW:=DV.out.below hbx DV.out.lt;have rP:=Rf.blk.cell 12;have e12:=Rf.blk.frozen 12;simp[dh] at rP;have aei:=Rf.blk.lt;have P7:=Lib.hid Rf;have Vt:=Lib.hid Vr;have Vu:=Lib.hid Vs;have Cq:=Lib.hid hbW;have Vv:=Lib.hid beW;have NV:=Lib.hid (And.intro xa1 (And.intro xa2 (And.intro xa3 xa4)));have NW:=Lib.hid (fun (w8:World) (A8:Option Addr) (c8:Nat) hq8 QD hf8=>vw.out.grow (W2:=wc) (w5:=w8) (x:=x) (Ap:=Ap) (A5:=A8) (cp:=cp) (c5:=c8) (p:=p) (base:=w3.heap.size) hbW Vs (by omega) Vr (Nat.le_refl _) xa2 (fun q hq=>HXS.out.pos q hq) hq8 QD hf8);obtain ⟨j1,hj1,hq0,hq1,hq2⟩:=FH;clear Rf Vr Vs hbW beW xa1 xa2 xa3 xa4 hbp hkW;go_wp2_with (at_builtin;refine pN rfl (.tmp 56) (.tmp 58) 111 rfl j1 (.pointer none) 8 NQ hj1 hq0 hq1 hq2 rfl rfl (P7.out.nR.alloc (.cells #[.pointer (some ⟨p,0,none⟩)] 118)) ⟨wc.heap.size,0,none⟩ 1 (.pointer (some ⟨p,0,none⟩)) rfl ?c1 rfl ?c2 ?c3 ?c4 ?_)
     case c1=>exact World.news_of_block (heap_alloc_new wc _) 0 _ rfl
     case c2=>unfold maxLen;omega
     case c3=>omega
     case c4=>omega
     intro v8 w8 Cr vD hq8;obtain ⟨A8,c8,rfl,Vw⟩:=Cr.sl;obtain ⟨D9,F9,vl9,Y2,hD9,hF9,Xk,Xv⟩:=NW.out w8 A8 c8 Cr vD (fun k hk=>(hq8 k hk).imp id (fun h=>by rw[World.size_alloc];exact h));have Xw:=((P7.out.blk.alloc (.cells #[.pointer (some ⟨p,0,none⟩)] 118)).grown vD (fun e=>P7.out.YP.2 e.symm));have Y3:=Xw.cell 12;have aej:=Xw.frozen 12;simp[dh] at Y3;have aek:g<(wc.alloc (.cells #[.pointer (some ⟨p,0,none⟩)] 118)).heap.size:=Nat.lt_of_lt_of_le P7.out.blk.lt (by simp);have FO:=Lib.hid Y2;have Vx:=Lib.hid hD9;have HF9:=Lib.hid hF9;have Vy:=Lib.hid Xk;have FP:=Lib.hid Xv;have Y4:aA (w8.setCell ⟨g,12,none⟩ (.slice A8 (s3.out.length+1) c8)) w.heap.size 35 #[.int .i64 0]:=Be.out.kept Xk (fun hd=>by
      rcases HD3.out _ hd with e|e
      ·exact hDn e
      ·omega)
     have NY:=Lib.hid Y4;clear Y2 hD9 hF9 Xk Xv Cr vD hq8 Vw Xw Y4;go_upto_region 19 with (fail)
     generalize w8.setCell ⟨g,12,none⟩ (.slice A8 (s3.out.length+1) c8)=w9 at*;clear Y3 aej rP e12 d0 d1 d2 c5 f5 aek aei;have Ah:=FO.out.blk.cell 10;have e10:=FO.out.blk.frozen 10;have p8:=FP.out.blk.cell 8;simp[dh] at Ah;simp[uN] at p8;have hsm:=sN.out;have E7:=HB3.out.held;have Tx:=HB3.out.dV;have hby:=HB3.out.bytes;have akm:=gV BM.out;have hts:s3.taken+ay x≤1048576:=by omega
     have Je:=(FO.out.ny 10 (.int .i64 ((s3.taken:Int)+(ay x:Nat))) (st':= {s3 with out:=s3.out++ [x],taken:=s3.taken+ay x}) (by simp[dh]) rfl rfl).drew;have NZ:=(FP.out.far FO.out.gd (fun e=>FO.out.blk.off FP.out.blk (by decide) e) 10 (.int .i64 ((s3.taken:Int)+(ay x:Nat)))).drew;have hk10:=(Vy.out.step ((Kept.refl (fun k _=>D9 k) w9).setCell (p:=⟨g,10,none⟩) (fun _ _=>FO.out.gd) (.int .i64 ((s3.taken:Int)+(ay x:Nat)))) Vx.out).drew;have TB:=(NY.out.far (p:=⟨g,10,none⟩) (fun e=>NY.out.off FO.out.blk (by decide) e) (.int .i64 ((s3.taken:Int)+(ay x:Nat)))).drew;have nW:=Lib.hid Je;have Jf:=Lib.hid NZ;have Rh:=Lib.hid hk10;have Cs:=Lib.hid TB;clear hsm E7 Je NZ hk10 TB
     go_region
     generalize (w9.setCell ⟨g,10,none⟩ (.int .i64 ((s3.taken:Int)+(ay x:Nat)))).drew=EI at*;clear Ah e10 p8;have y13:=nW.out.blk.cell 13;have Ci:=nW.out.blk.cell 14;have e13:=nW.out.blk.frozen 13;have e14:=nW.out.blk.frozen 14;have p8:=Jf.out.blk.cell 8;simp[dh] at y13 Ci;simp[uN] at p8;go_wp2_with fail;go_cut [] from 73 to 92 (fun wx=>wx=((EI.setCell ⟨g,13,none⟩ (.int .i64 ((s3.dV:Int)+1))).setCell ⟨g,14,none⟩ (.int .i64 ((s3.bytes:Int)+(ay x:Nat)))).drew)
     case first=>
      clear nW Jf Rh Cs FO Vx HF9 Vy FP NY NW NV Vv Cq Vu Vt P7 hbx Hw QJ DV Jd NU sI Q8 HRR BM sN Q9 yQ Ak wu HS Rb Re HXS HX Xt Q6 Q7 Vp NC NT Q5 Xr vw HI3 HB3 P6 lI HD3 NR Vl Jb Be HKK yY HEX HR HF Cn HI1 HT MI HB1 wS HH oF;generalize ay x=sz at*;refine wp_region_noPanic ?_;refine bM (fun w'=>w'.cell? ⟨g,13,none⟩=some (.int .i64 (s3.dV:Nat))∧w'.cell? ⟨g,14,none⟩=some (.int .i64 (s3.bytes:Nat))∧w'.cell? ⟨p,8,none⟩=some (.int .i64 (sz:Nat))) [18,21] (by kernel_rfl) ?_;have hHeld:EI.drew.cell? ⟨g,13,none⟩=some (.int .i64 (s3.dV:Nat))∧EI.drew.cell? ⟨g,14,none⟩=some (.int .i64 (s3.bytes:Nat))∧EI.drew.cell? ⟨p,8,none⟩=some (.int .i64 (sz:Nat)):=⟨y13,Ci,p8⟩;refine tkY 0 ?_ rfl (Or.inl ⟨by rfl,?_⟩) hHeld ?_;rotate_left
      ·intro w' hSw;go_simp
       try with_reducible rfl
      try simp only[Act.put,zzA,zzE,yo,UM,zzD]
      refine tkY 1 ?_ rfl (Or.inl ⟨by rfl,?_⟩) hHeld ?_;rotate_left
      ·intro w' hSw;go_simp
       try with_reducible rfl
      try simp only[Act.put,zzA,zzE,zzF,yo,UM,zzD]
      refine tkY 2 ?_ rfl (Or.inl ⟨by rfl,?_⟩) hHeld ?_;rotate_left
      ·intro w' hSw;go_simp
       try with_reducible rfl
      try simp only[Act.put,zzA,zzE,zzF,yo,UM,zzD]
      refine tkY 3 ?_ rfl (Or.inl ⟨by rfl,?_⟩) hHeld ?_;rotate_left
      ·intro w' hSw;go_simp
       try with_reducible rfl
      try simp only[Act.put,zzA,zzE,zzF,yo,UM,zzD]
      refine tkY 4 ?_ rfl (Or.inl ⟨by rfl,?_⟩) hHeld ?_;rotate_left
      ·intro w' hSw;go_simp
       try with_reducible rfl
      try simp only[Act.put,zzA,zzE,zzF,yo,UM,zzD]
      refine tkX [18,21] 5 ?_ rfl (Or.inl ⟨by rfl,?_⟩) hHeld ?_;rotate_left
      ·intro w' hSw;obtain ⟨hS1,hS2,ig⟩:=hSw;go_simp
       try with_reducible rfl
      try simp only[Act.put,zzA,zzE,zzF,yo,UM,zzD]
      refine tkY 6 ?_ rfl (Or.inl ⟨by rfl,?_⟩) hHeld ?_;rotate_left
      ·intro w' hSw;go_simp
       try with_reducible rfl
      try simp only[Act.put,zzA,zzE,zzF,yo,UM,zzD]
      refine tkY 7 ?_ rfl (Or.inl ⟨by rfl,?_⟩) hHeld ?_;rotate_left
      ·intro w' hSw;go_simp
       try with_reducible rfl
      try simp only[Act.put,zzA,zzE,zzF,yo,UM,zzD]
      refine tkY 8 ?_ rfl (Or.inl ⟨by rfl,?_⟩) hHeld ?_;rotate_left
      ·intro w' hSw;go_simp
       try with_reducible rfl
      try simp only[Act.put,zzA,zzE,zzF,yo,UM,zzD]
      refine tkY 9 ?_ rfl (Or.inl ⟨by rfl,?_⟩) hHeld ?_;rotate_left
      ·intro w' hSw;go_simp
       try with_reducible rfl
      try simp only[Act.put,zzA,zzE,zzF,yo,UM,zzD]
      refine tkX [18,21] 10 ?_ rfl (Or.inl ⟨by rfl,?_⟩) hHeld ?_;rotate_left
      ·intro w' hSw;obtain ⟨hS1,hS2,ig⟩:=hSw;go_simp
       try with_reducible rfl
      try simp only[Act.put,zzA,zzE,zzF,yo,UM,zzD]
      refine tkY 11 ?_ rfl (Or.inl ⟨by rfl,?_⟩) hHeld ?_;rotate_left
      ·intro w' hSw;go_simp
       try with_reducible rfl
      try simp only[Act.put,zzA,zzE,zzF,yo,UM,zzD]
      refine tkY 12 ?_ rfl (Or.inl ⟨by rfl,?_⟩) hHeld ?_;rotate_left
      ·intro w' hSw;go_simp
       try with_reducible rfl
      try simp only[Act.put,zzA,zzE,zzF,yo,UM,zzD]
      refine tkY 13 ?_ rfl (Or.inl ⟨by rfl,?_⟩) hHeld ?_;rotate_left
      ·intro w' hSw;go_simp
       try with_reducible rfl
      try simp only[Act.put,zzA,zzE,zzF,yo,UM,zzD]
      refine tkX [18,21] 14 ?_ rfl (Or.inl ⟨by rfl,?_⟩) hHeld ?_;rotate_left
      ·intro w' hSw;obtain ⟨hS1,hS2,ig⟩:=hSw;go_simp
       try with_reducible rfl
      try simp only[Act.put,zzA,zzE,zzF,yo,UM,zzD]
      refine tkY 15 ?_ rfl (Or.inl ⟨by rfl,?_⟩) hHeld ?_;rotate_left
      ·intro w' hSw;go_simp
       try with_reducible rfl
      try simp only[Act.put,zzA,zzE,zzF,yo,UM,zzD]
      refine tkY 16 ?_ rfl (Or.inl ⟨by rfl,?_⟩) hHeld ?_;rotate_left
      ·intro w' hSw;go_simp
       try with_reducible rfl
      try simp only[Act.put,zzA,zzE,zzF,yo,UM,zzD]
      refine tkY 17 ?_ rfl (Or.inl ⟨by rfl,?_⟩) hHeld ?_;rotate_left
      ·intro w' hSw;go_simp
       try with_reducible rfl
      try simp only[Act.put,zzA,zzE,zzF,yo,UM,zzD]
      refine aQ (i:=18) rfl (by kernel_rfl) (by kernel_rfl) (by rfl) (fun K hK=> ?_);go_simp;refine hK _ _ ?_;clear hK K
      try simp only[Act.put,zzA,zzE,zzF,yo,UM,zzD]
      refine tkZ 19 ?_ rfl (Or.inl ⟨by rfl,?_⟩) ?_;rotate_left
      ·intro w' hSw;go_simp
       try with_reducible rfl
      try simp only[Act.put,zzA,zzE,zzF,yo,UM,zzD]
      refine tkZ 20 ?_ rfl (Or.inl ⟨by rfl,?_⟩) ?_;rotate_left
      ·intro w' hSw;go_simp
       try with_reducible rfl
      try simp only[Act.put,zzA,zzE,zzF,yo,UM,zzD]
      refine aQ (i:=21) rfl (by kernel_rfl) (by kernel_rfl) (by rfl) (fun K hK=> ?_);go_simp;refine hK _ _ ?_;clear hK K
      try simp only[Act.put,zzA,zzE,zzF,yo,UM,zzD]
      refine aU (by kernel_rfl) ?_ _;refine NoPanic.normal ?_;rw[IntWalk.i64_in ((s3.dV:Int)+1) (by omega),IntWalk.i64_in ((s3.bytes:Int)+(sz:Nat)) (by omega)];go_wp2_with fail;go_meet;rfl
     case rest=>
     subst hcut;have Y5:=((nW.out.ny 13 (.int .i64 ((s3.dV:Int)+1)) (st':= {s3 with out:=s3.out++ [x],taken:=s3.taken+ay x,dV:=s3.dV+1}) (by simp[dh]) rfl rfl).ny 14 (.int .i64 ((s3.bytes:Int)+(ay x:Nat))) (st':=dR s3 x) (by simp[dh,dR]) rfl rfl).drew;have Y6:=((Jf.out.far nW.out.gd (fun e=>nW.out.blk.off Jf.out.blk (by decide) e) 13 (.int .i64 ((s3.dV:Int)+1))).far nW.out.gd (fun e=>nW.out.blk.off Jf.out.blk (by decide) e) 14 (.int .i64 ((s3.bytes:Int)+(ay x:Nat)))).drew;have Y7:=(Rh.out.step (((Kept.refl (fun k _=>D9 k) EI).setCell (p:=⟨g,13,none⟩) (fun _ _=>nW.out.gd) (.int .i64 ((s3.dV:Int)+1))).setCell (p:=⟨g,14,none⟩) (fun _ _=>nW.out.gd) (.int .i64 ((s3.bytes:Int)+(ay x:Nat)))) Vx.out).drew;have TC:=((Cs.out.far (p:=⟨g,13,none⟩) (fun e=>Cs.out.off nW.out.blk (by decide) e) (.int .i64 ((s3.dV:Int)+1))).far (p:=⟨g,14,none⟩) (fun e=>Cs.out.off nW.out.blk (by decide) e) (.int .i64 ((s3.bytes:Int)+(ay x:Nat)))).drew;have DW:=Lib.hid Y5;have Bf:=Lib.hid Y6;have Ri:=Lib.hid Y7;have Kk:=Lib.hid TC;clear Y5 Y6 Y7 TC y13 Ci e13 e14 p8 hts;generalize (((EI.setCell ⟨g,13,none⟩ (.int .i64 ((s3.dV:Int)+1))).setCell ⟨g,14,none⟩ (.int .i64 ((s3.bytes:Int)+(ay x:Nat)))).drew)=wB at*;go_wp2_with fail;have ael:=sN.out;have E7:=HB3.out.held;have FQ:aZ (dR s3 x)≤1048576:=E7;have hol:(dR s3 x).out.length≤512:=by
      show (s3.out++ [x]).length≤512
      rw[List.length_append];simp;omega
     have hf1:(dR s3 x).first<1024:=Jc
     obtain ⟨b,hb⟩:∃b,b=iU c (dR s3 x):=⟨_,rfl⟩
     have N5:x.sn=cB s3:=NV.out.2.2.2;have hfi:=jm DW.out.drew FQ hol hf1 x.sn false false false 0 x.s x.e Ap x.ps.length cp vl9 x.ps (fun w' hk=>Bf.out.drew.FC DW.out.drew.lt hk) (oU BM.out) (by omega) b;rw[N5] at hfi;have Ld:Calls Tryz.prog 105 #[.pointer (some ⟨g,0,none⟩),.agg #[.int .i64 (cB s3:Nat),.bool false,.bool false,.bool false,.int .i64 0,.bool x.s,.bool x.e,.slice Ap x.ps.length cp],.bool b] wB.drew (DJ wB.drew D9 F9 g c (aR c (dR s3 x) b).1 (nC (cB s3) (aR c (dR s3 x) b).2 false false 0 x.s x.e x.ps)):=hfi;have FD:=Lib.hid Ld;have akn:w.heap.size≠g:=fun e=>Kk.out.off DW.out.blk (by decide) e
     have hzz:=lI.out.size;have aem:¬D9 w.heap.size:=fun hd=>by
      rcases Vx.out _ hd with e|e
      ·rcases HD3.out _ e with e|e
       ·exact hDn e
       ·omega
      ·omega
     have y0:=DW.out.blk.cell 0;have y1:=DW.out.blk.cell 1;have y13:=DW.out.blk.cell 13;have Ci:=DW.out.blk.cell 14;simp[dh,dR] at y0 y1 y13 Ci;obtain ⟨p0,p7,p8,p9,p10,p11⟩:=Bf.out.cells;obtain ⟨p1,p2,p3,p4,p5,p6⟩:=(show wB.cell? ⟨p,1,none⟩=some (.bool false)∧wB.cell? ⟨p,2,none⟩=some (.bool false)∧wB.cell? ⟨p,3,none⟩=some (.bool false)∧wB.cell? ⟨p,4,none⟩=some (.int .i64 0)∧wB.cell? ⟨p,5,none⟩=some (.bool x.s)∧wB.cell? ⟨p,6,none⟩=some (.bool x.e) from
      ⟨Bf.out.blk.cell 1,Bf.out.blk.cell 2,Bf.out.blk.cell 3,Bf.out.blk.cell 4,Bf.out.blk.cell 5,Bf.out.blk.cell 6⟩)
     rw[N5] at p0;have HB:=Lib.hid hb;have Tt:=Lib.hid FQ;clear hfi Ld FQ hol hf1 N5 hb ael E7 p8 p9 p10 p11;go_cut [6] from 93 to 136 (fun s6 wx=>∃W',wx=W'.setCell ⟨w.heap.size,0,none⟩ (.int .i64 0)∧W'.ownsRow wB.heap.size 5 1 s6 (nC (cB s3) (aR c (dR s3 x) b).2 false false 0 x.s x.e x.ps).length (cu (nC (cB s3) (aR c (dR s3 x) b).2 false false 0 x.s x.e x.ps))∧lZ wB.drew D9 F9 g c (aR c (dR s3 x) b).1 W')
     case first=>
      have hbb:=HB.out;unfold iU at hbb;have e1:((dR s3 x).dV:Int)=(s3.dV:Int)+1:=by simp[dR]
      have e2:((dR s3 x).bytes:Int)=(s3.bytes:Int)+(ay x:Nat):=by simp[dR]
      rw[e1,e2] at hbb;clear e1 e2;have MI:=Lib.hid Kk.out;have Ny:=Lib.hid aem;clear DW Bf Ri Kk nW Jf Rh Cs FO Vx HF9 Vy FP NY NW NV Vv Cq Vu Vt P7 hbx Hw QJ DV Jd NU sI Q8 HRR BM sN Q9 yQ Ak wu HS Rb Re HXS HX Xt Q6 Q7 Vp NC NT Q5 Xr vw HI3 HB3 P6 lI HD3 NR Vl Jb Be HKK yY HEX HR HF Cn HI1 HT HB1 wS HH oF HB Tt;have hHeld:=(show wB.drew.cell? ⟨g,0,none⟩=some (.int .i64 c.J3)∧wB.drew.cell? ⟨g,1,none⟩=some (.int .i64 c.byte)∧wB.drew.cell? ⟨g,13,none⟩=some (.int .i64 ((s3.dV:Int)+1))∧wB.drew.cell? ⟨g,14,none⟩=some (.int .i64 ((s3.bytes:Int)+(ay x:Nat)))∧wB.drew.cell? ⟨p,0,none⟩=some (.int .i64 (cB s3:Nat))∧wB.drew.cell? ⟨p,1,none⟩=some (.bool false)∧wB.drew.cell? ⟨p,2,none⟩=some (.bool false)∧wB.drew.cell? ⟨p,3,none⟩=some (.bool false)∧wB.drew.cell? ⟨p,4,none⟩=some (.int .i64 0)∧wB.drew.cell? ⟨p,5,none⟩=some (.bool x.s)∧wB.drew.cell? ⟨p,6,none⟩=some (.bool x.e)∧wB.drew.cell? ⟨p,7,none⟩=some (.slice Ap x.ps.length cp) from ⟨y0,y1,y13,Ci,p0,p1,p2,p3,p4,p5,p6,p7⟩);clear y0 y1 y13 Ci p0 p1 p2 p3 p4 p5 p6 p7;obtain ⟨bA,d1⟩:∃q,decide (0<c.J3)=q:=⟨_,rfl⟩
      obtain ⟨bE,d2⟩:∃q,decide (c.J3≤(s3.dV:Int)+1)=q:=⟨_,rfl⟩
      obtain ⟨bB,d3⟩:∃q,decide (0<c.byte)=q:=⟨_,rfl⟩
      obtain ⟨bC,d4⟩:∃q,decide (c.byte≤(s3.bytes:Int)+(ay x:Nat))=q:=⟨_,rfl⟩
      rw[d1,d2,d3,d4] at hbb;obtain ⟨pq,hpq⟩:∃q,(bA&&bE)=q:=⟨_,rfl⟩
      obtain ⟨q2,hq2⟩:∃q,(bB&&bC)=q:=⟨_,rfl⟩
      rw[hpq,hq2] at hbb;have Xx:=Lib.hid hpq;have HQ2:=Lib.hid hq2;have N6:=Lib.hid hbb;clear hpq hq2 hbb;refine wp_region_noPanic ?_;refine bM (fun w'=>w'.cell? ⟨g,0,none⟩=some (.int .i64 c.J3)∧w'.cell? ⟨g,1,none⟩=some (.int .i64 c.byte)∧w'.cell? ⟨g,13,none⟩=some (.int .i64 ((s3.dV:Int)+1))∧w'.cell? ⟨g,14,none⟩=some (.int .i64 ((s3.bytes:Int)+(ay x:Nat)))∧w'.cell? ⟨p,0,none⟩=some (.int .i64 (cB s3:Nat))∧w'.cell? ⟨p,1,none⟩=some (.bool false)∧w'.cell? ⟨p,2,none⟩=some (.bool false)∧w'.cell? ⟨p,3,none⟩=some (.bool false)∧w'.cell? ⟨p,4,none⟩=some (.int .i64 0)∧w'.cell? ⟨p,5,none⟩=some (.bool x.s)∧w'.cell? ⟨p,6,none⟩=some (.bool x.e)∧w'.cell? ⟨p,7,none⟩=some (.slice Ap x.ps.length cp)) [43] (by kernel_rfl) ?_;refine tkY 0 ?_ rfl (Or.inl ⟨by rfl,?_⟩) hHeld ?_;rotate_left
      ·intro w' hSw;go_simp
       try with_reducible rfl
      try simp only[Act.put,zzA,zzE,yo,UM,zzD]
      refine tkY 1 ?_ rfl (Or.inl ⟨by rfl,?_⟩) hHeld ?_;rotate_left
      ·intro w' hSw;go_simp
       try with_reducible rfl
      try simp only[Act.put,zzA,zzE,zzF,yo,UM,zzD]
      refine tkY 2 ?_ rfl (Or.inl ⟨by rfl,?_⟩) hHeld ?_;rotate_left
      ·intro w' hSw;go_simp
       try with_reducible rfl
      try simp only[Act.put,zzA,zzE,zzF,yo,UM,zzD]
      refine tkY 3 ?_ rfl (Or.inl ⟨by rfl,?_⟩) hHeld ?_;rotate_left
      ·intro w' hSw;go_simp
       try with_reducible rfl
      try simp only[Act.put,zzA,zzE,zzF,yo,UM,zzD]
      refine tkX [43] 4 ?_ rfl (Or.inl ⟨by rfl,?_⟩) hHeld ?_;rotate_left
      ·intro w' hSw;obtain ⟨hS1,hS2,ig,pW,hS5,wT,Ce,EK,EL,pX,Le,Lf⟩:=hSw;go_simp
       try with_reducible rfl
      try simp only[Act.put,zzA,zzE,zzF,yo,UM,zzD]
      refine tkY 5 ?_ rfl (Or.inl ⟨by rfl,?_⟩) hHeld ?_;rotate_left
      ·intro w' hSw;go_simp
       try with_reducible rfl
      try simp only[Act.put,zzA,zzE,zzF,yo,UM,zzD]
      refine tkY 6 ?_ rfl (Or.inl ⟨by rfl,?_⟩) hHeld ?_;rotate_left
      ·intro w' hSw;go_simp
       try with_reducible rfl
      try simp only[Act.put,zzA,zzE,zzF,yo,UM,zzD]
      refine tkY 7 ?_ rfl (Or.inl ⟨by rfl,?_⟩) hHeld ?_;rotate_left
      ·intro w' hSw;go_simp
       try with_reducible rfl
      try simp only[Act.put,zzA,zzE,zzF,yo,UM,zzD]
      refine tkY 8 ?_ rfl (Or.inl ⟨by rfl,?_⟩) hHeld ?_;rotate_left
      ·intro w' hSw;go_simp
       try with_reducible rfl
      try simp only[Act.put,zzA,zzE,zzF,yo,UM,zzD]
      refine tkX [43,42,23,22,11,10] 9 ?_ rfl (Or.inl ⟨by rfl,?_⟩) hHeld ?_;rotate_left
      ·intro w' hSw;obtain ⟨hS1,hS2,ig,pW,hS5,wT,Ce,EK,EL,pX,Le,Lf⟩:=hSw;go_simp
       try with_reducible rfl
      try simp only[Act.put,zzA,zzE,zzF,yo,UM,zzD]
      refine tkY 10 (.bool bA) rfl (Or.inl ⟨by rfl,?_⟩) hHeld ?_
      ·intro w' hSw;go_simp
       try with_reducible rfl
      try simp only[Act.put,zzA,zzE,zzF,yo,UM,zzD]
      refine tkY 11 ?_ rfl (Or.inl ⟨by rfl,?_⟩) hHeld ?_;rotate_left
      ·intro w' hSw;go_simp
       try with_reducible rfl
      try simp only[Act.put,zzA,zzE,zzF,yo,UM,zzD]
      refine tkY 12 (cond bA (.pointer (some ⟨g,0,none⟩)) undef) rfl (YieldsIf.guard bA (fun hb=> ?_) (fun hb=> ?_)) hHeld ?_
      ·subst hb;refine Or.inl ⟨by rfl,?_⟩;intro w' hSw
       try simp only[cond_true]
       go_simp
       try with_reducible rfl
      ·subst hb;rfl
      try simp only[Act.put,zzA,zzE,zzF,yo,UM,zzD]
      refine tkY 13 (cond bA (.pointer (some ⟨g,0,none⟩)) undef) rfl (YieldsIf.guard bA (fun hb=> ?_) (fun hb=> ?_)) hHeld ?_
      ·subst hb;refine Or.inl ⟨by rfl,?_⟩;intro w' hSw
       try simp only[cond_true]
       go_simp
       try with_reducible rfl
      ·subst hb;rfl
      try simp only[Act.put,zzA,zzE,zzF,yo,UM,zzD]
      refine tkY 14 (cond bA (.pointer (some ⟨g,13,none⟩)) undef) rfl (YieldsIf.guard bA (fun hb=> ?_) (fun hb=> ?_)) hHeld ?_
      ·subst hb;refine Or.inl ⟨by rfl,?_⟩;intro w' hSw
       try simp only[cond_true]
       go_simp
       try with_reducible rfl
      ·subst hb;rfl
      try simp only[Act.put,zzA,zzE,zzF,yo,UM,zzD]
      refine tkX [43,42,23,22,21] 15 (cond bA (.int .i64 ((s3.dV:Int)+1)) undef) rfl (YieldsIf.guard bA (fun hb=> ?_) (fun hb=> ?_)) hHeld ?_
      ·subst hb;refine Or.inl ⟨by rfl,?_⟩;intro w' hSw;obtain ⟨hS1,hS2,ig,pW,hS5,wT,Ce,EK,EL,pX,Le,Lf⟩:=hSw
       try simp only[cond_true]
       go_simp
       try with_reducible rfl
      ·subst hb;rfl
      try simp only[Act.put,zzA,zzE,zzF,yo,UM,zzD]
      refine tkY 16 (cond bA (.pointer (some ⟨g,0,none⟩)) undef) rfl (YieldsIf.guard bA (fun hb=> ?_) (fun hb=> ?_)) hHeld ?_
      ·subst hb;refine Or.inl ⟨by rfl,?_⟩;intro w' hSw
       try simp only[cond_true]
       go_simp
       try with_reducible rfl
      ·subst hb;rfl
      try simp only[Act.put,zzA,zzE,zzF,yo,UM,zzD]
      refine tkY 17 (cond bA (.pointer (some ⟨g,0,none⟩)) undef) rfl (YieldsIf.guard bA (fun hb=> ?_) (fun hb=> ?_)) hHeld ?_
      ·subst hb;refine Or.inl ⟨by rfl,?_⟩;intro w' hSw
       try simp only[cond_true]
       go_simp
       try with_reducible rfl
      ·subst hb;rfl
      try simp only[Act.put,zzA,zzE,zzF,yo,UM,zzD]
      refine tkY 18 (cond bA (.pointer (some ⟨g,0,none⟩)) undef) rfl (YieldsIf.guard bA (fun hb=> ?_) (fun hb=> ?_)) hHeld ?_
      ·subst hb;refine Or.inl ⟨by rfl,?_⟩;intro w' hSw
       try simp only[cond_true]
       go_simp
       try with_reducible rfl
      ·subst hb;rfl
      try simp only[Act.put,zzA,zzE,zzF,yo,UM,zzD]
      refine tkY 19 (cond bA (.pointer (some ⟨g,0,none⟩)) undef) rfl (YieldsIf.guard bA (fun hb=> ?_) (fun hb=> ?_)) hHeld ?_
      ·subst hb;refine Or.inl ⟨by rfl,?_⟩;intro w' hSw
       try simp only[cond_true]
       go_simp
       try with_reducible rfl
      ·subst hb;rfl
      try simp only[Act.put,zzA,zzE,zzF,yo,UM,zzD]
      refine tkX [43,42,23,22,21] 20 (cond bA (.int .i64 c.J3) undef) rfl (YieldsIf.guard bA (fun hb=> ?_) (fun hb=> ?_)) hHeld ?_
      ·subst hb;refine Or.inl ⟨by rfl,?_⟩;intro w' hSw;obtain ⟨hS1,hS2,ig,pW,hS5,wT,Ce,EK,EL,pX,Le,Lf⟩:=hSw
       try simp only[cond_true]
       go_simp
       try with_reducible rfl
      ·subst hb;rfl
      try simp only[Act.put,zzA,zzE,zzF,yo,UM,zzD]
      refine tkY 21 (cond bA (.bool bE) undef) rfl (YieldsIf.guard bA (fun hb=> ?_) (fun hb=> ?_)) hHeld ?_
      ·subst hb;refine Or.inl ⟨by rfl,?_⟩;intro w' hSw
       try simp only[cond_true]
       go_simp
       try with_reducible rfl
      ·subst hb;rfl
      try simp only[Act.put,zzA,zzE,zzF,yo,UM,zzD]
      refine tkY 22 (.bool pq) rfl (Or.inl ⟨by rfl,?_⟩) hHeld ?_
      ·intro w' hSw;have hq:=Xx.out;cases bA with
       |false=>
        have hq':pq=false:=by rw[←hq];rfl
        subst hq';clear hq;simp only[cond_false];go_simp
       |true=>
        have hq':bE=pq:=by rw[←hq];rfl
        subst hq';clear hq;simp only[cond_true];go_simp
      try simp only[Act.put,zzA,zzE,zzF,yo,UM,zzD]
      refine tkY 23 ?_ rfl (Or.inl ⟨by rfl,?_⟩) hHeld ?_;rotate_left
      ·intro w' hSw;go_simp
       try with_reducible rfl
      try simp only[Act.put,zzA,zzE,zzF,yo,UM,zzD]
      refine tkY 24 (cond (!pq) (.pointer (some ⟨g,0,none⟩)) undef) rfl (YieldsIf.guard (!pq) (fun hb=> ?_) (fun hb=> ?_)) hHeld ?_
      ·have hb1:pq=false:=by simpa using hb
       subst hb1;refine Or.inl ⟨by rfl,?_⟩;intro w' hSw
       try simp only[Bool.not_false,cond_true]
       go_simp
       try with_reducible rfl
      ·have hb1:pq=true:=by simpa using hb
       subst hb1;rfl
      try simp only[Act.put,zzA,zzE,zzF,yo,UM,zzD]
      refine tkY 25 (cond (!pq) (.pointer (some ⟨g,0,none⟩)) undef) rfl (YieldsIf.guard (!pq) (fun hb=> ?_) (fun hb=> ?_)) hHeld ?_
      ·have hb1:pq=false:=by simpa using hb
       subst hb1;refine Or.inl ⟨by rfl,?_⟩;intro w' hSw
       try simp only[Bool.not_false,cond_true]
       go_simp
       try with_reducible rfl
      ·have hb1:pq=true:=by simpa using hb
       subst hb1;rfl
      try simp only[Act.put,zzA,zzE,zzF,yo,UM,zzD]
      refine tkY 26 (cond (!pq) (.pointer (some ⟨g,0,none⟩)) undef) rfl (YieldsIf.guard (!pq) (fun hb=> ?_) (fun hb=> ?_)) hHeld ?_
      ·have hb1:pq=false:=by simpa using hb
       subst hb1;refine Or.inl ⟨by rfl,?_⟩;intro w' hSw
       try simp only[Bool.not_false,cond_true]
       go_simp
       try with_reducible rfl
      ·have hb1:pq=true:=by simpa using hb
       subst hb1;rfl
      try simp only[Act.put,zzA,zzE,zzF,yo,UM,zzD]
      refine tkY 27 (cond (!pq) (.pointer (some ⟨g,1,none⟩)) undef) rfl (YieldsIf.guard (!pq) (fun hb=> ?_) (fun hb=> ?_)) hHeld ?_
      ·have hb1:pq=false:=by simpa using hb
       subst hb1;refine Or.inl ⟨by rfl,?_⟩;intro w' hSw
       try simp only[Bool.not_false,cond_true]
       go_simp
       try with_reducible rfl
      ·have hb1:pq=true:=by simpa using hb
       subst hb1;rfl
      try simp only[Act.put,zzA,zzE,zzF,yo,UM,zzD]
      refine tkX [43,42,41,30,29] 28 (cond (!pq) (.int .i64 c.byte) undef) rfl (YieldsIf.guard (!pq) (fun hb=> ?_) (fun hb=> ?_)) hHeld ?_
      ·have hb1:pq=false:=by simpa using hb
       subst hb1;refine Or.inl ⟨by rfl,?_⟩;intro w' hSw;obtain ⟨hS1,hS2,ig,pW,hS5,wT,Ce,EK,EL,pX,Le,Lf⟩:=hSw
       try simp only[Bool.not_false,cond_true]
       go_simp
       try with_reducible rfl
      ·have hb1:pq=true:=by simpa using hb
       subst hb1;rfl
      try simp only[Act.put,zzA,zzE,zzF,yo,UM,zzD]
      refine tkY 29 (cond (!pq) (.bool bB) undef) rfl (YieldsIf.guard (!pq) (fun hb=> ?_) (fun hb=> ?_)) hHeld ?_
      ·have hb1:pq=false:=by simpa using hb
       subst hb1;refine Or.inl ⟨by rfl,?_⟩;intro w' hSw
       try simp only[Bool.not_false,cond_true]
       go_simp
       try with_reducible rfl
      ·have hb1:pq=true:=by simpa using hb
       subst hb1;rfl
      try simp only[Act.put,zzA,zzE,zzF,yo,UM,zzD]
      refine tkY 30 (cond (!pq) (.bool bB) undef) rfl (YieldsIf.guard (!pq) (fun hb=> ?_) (fun hb=> ?_)) hHeld ?_
      ·have hb1:pq=false:=by simpa using hb
       subst hb1;refine Or.inl ⟨by rfl,?_⟩;intro w' hSw
       try simp only[Bool.not_false,cond_true]
       go_simp
       try with_reducible rfl
      ·have hb1:pq=true:=by simpa using hb
       subst hb1;rfl
      try simp only[Act.put,zzA,zzE,zzF,yo,UM,zzD]
      refine tkY 31 (cond (!pq&&bB) (.pointer (some ⟨g,0,none⟩)) undef) rfl (YieldsIf.guard (!pq&&bB) (fun hb=> ?_) (fun hb=> ?_)) hHeld ?_
      ·obtain ⟨hb1,rfl⟩:pq=false∧bB=true:=by simpa using hb
       subst hb1;refine Or.inl ⟨by rfl,?_⟩;intro w' hSw
       try simp only[Bool.not_false,cond_true]
       go_simp
       try with_reducible rfl
      ·cases pq<;>cases bB<;>first|rfl|(cases hb)
      try simp only[Act.put,zzA,zzE,zzF,yo,UM,zzD]
      refine tkY 32 (cond (!pq&&bB) (.pointer (some ⟨g,0,none⟩)) undef) rfl (YieldsIf.guard (!pq&&bB) (fun hb=> ?_) (fun hb=> ?_)) hHeld ?_
      ·obtain ⟨hb1,rfl⟩:pq=false∧bB=true:=by simpa using hb
       subst hb1;refine Or.inl ⟨by rfl,?_⟩;intro w' hSw
       try simp only[Bool.not_false,Bool.and_self,cond_true]
       go_simp
       try with_reducible rfl
      ·cases pq<;>cases bB<;>first|rfl|(cases hb)
      try simp only[Act.put,zzA,zzE,zzF,yo,UM,zzD]
      refine tkY 33 (cond (!pq&&bB) (.pointer (some ⟨g,14,none⟩)) undef) rfl (YieldsIf.guard (!pq&&bB) (fun hb=> ?_) (fun hb=> ?_)) hHeld ?_
      ·obtain ⟨hb1,rfl⟩:pq=false∧bB=true:=by simpa using hb
       subst hb1;refine Or.inl ⟨by rfl,?_⟩;intro w' hSw
       try simp only[Bool.not_false,Bool.and_self,cond_true]
       go_simp
       try with_reducible rfl
      ·cases pq<;>cases bB<;>first|rfl|(cases hb)
      try simp only[Act.put,zzA,zzE,zzF,yo,UM,zzD]
      refine tkX [43,42,41,40] 34 (cond (!pq&&bB) (.int .i64 ((s3.bytes:Int)+(ay x:Nat))) undef) rfl (YieldsIf.guard (!pq&&bB) (fun hb=> ?_) (fun hb=> ?_)) hHeld ?_
      ·obtain ⟨hb1,rfl⟩:pq=false∧bB=true:=by simpa using hb
       subst hb1;refine Or.inl ⟨by rfl,?_⟩;intro w' hSw;obtain ⟨hS1,hS2,ig,pW,hS5,wT,Ce,EK,EL,pX,Le,Lf⟩:=hSw
       try simp only[Bool.not_false,Bool.and_self,cond_true]
       go_simp
       try with_reducible rfl
      ·cases pq<;>cases bB<;>first|rfl|(cases hb)
      try simp only[Act.put,zzA,zzE,zzF,yo,UM,zzD]
      refine tkY 35 (cond (!pq&&bB) (.pointer (some ⟨g,0,none⟩)) undef) rfl (YieldsIf.guard (!pq&&bB) (fun hb=> ?_) (fun hb=> ?_)) hHeld ?_
      ·obtain ⟨hb1,rfl⟩:pq=false∧bB=true:=by simpa using hb
       subst hb1;refine Or.inl ⟨by rfl,?_⟩;intro w' hSw
       try simp only[Bool.not_false,Bool.and_self,cond_true]
       go_simp
       try with_reducible rfl
      ·cases pq<;>cases bB<;>first|rfl|(cases hb)
      try simp only[Act.put,zzA,zzE,zzF,yo,UM,zzD]
      refine tkY 36 (cond (!pq&&bB) (.pointer (some ⟨g,0,none⟩)) undef) rfl (YieldsIf.guard (!pq&&bB) (fun hb=> ?_) (fun hb=> ?_)) hHeld ?_
      ·obtain ⟨hb1,rfl⟩:pq=false∧bB=true:=by simpa using hb
       subst hb1;refine Or.inl ⟨by rfl,?_⟩;intro w' hSw
       try simp only[Bool.not_false,Bool.and_self,cond_true]
       go_simp
       try with_reducible rfl
      ·cases pq<;>cases bB<;>first|rfl|(cases hb)
      try simp only[Act.put,zzA,zzE,zzF,yo,UM,zzD]
      refine tkY 37 (cond (!pq&&bB) (.pointer (some ⟨g,0,none⟩)) undef) rfl (YieldsIf.guard (!pq&&bB) (fun hb=> ?_) (fun hb=> ?_)) hHeld ?_
      ·obtain ⟨hb1,rfl⟩:pq=false∧bB=true:=by simpa using hb
       subst hb1;refine Or.inl ⟨by rfl,?_⟩;intro w' hSw
       try simp only[Bool.not_false,Bool.and_self,cond_true]
       go_simp
       try with_reducible rfl
      ·cases pq<;>cases bB<;>first|rfl|(cases hb)
      try simp only[Act.put,zzA,zzE,zzF,yo,UM,zzD]
      refine tkY 38 (cond (!pq&&bB) (.pointer (some ⟨g,1,none⟩)) undef) rfl (YieldsIf.guard (!pq&&bB) (fun hb=> ?_) (fun hb=> ?_)) hHeld ?_
      ·obtain ⟨hb1,rfl⟩:pq=false∧bB=true:=by simpa using hb
       subst hb1;refine Or.inl ⟨by rfl,?_⟩;intro w' hSw
       try simp only[Bool.not_false,Bool.and_self,cond_true]
       go_simp
       try with_reducible rfl
      ·cases pq<;>cases bB<;>first|rfl|(cases hb)
      try simp only[Act.put,zzA,zzE,zzF,yo,UM,zzD]
      refine tkX [43,42,41,40] 39 (cond (!pq&&bB) (.int .i64 c.byte) undef) rfl (YieldsIf.guard (!pq&&bB) (fun hb=> ?_) (fun hb=> ?_)) hHeld ?_
      ·obtain ⟨hb1,rfl⟩:pq=false∧bB=true:=by simpa using hb
       subst hb1;refine Or.inl ⟨by rfl,?_⟩;intro w' hSw;obtain ⟨hS1,hS2,ig,pW,hS5,wT,Ce,EK,EL,pX,Le,Lf⟩:=hSw
       try simp only[Bool.not_false,Bool.and_self,cond_true]
       go_simp
       try with_reducible rfl
      ·cases pq<;>cases bB<;>first|rfl|(cases hb)
      try simp only[Act.put,zzA,zzE,zzF,yo,UM,zzD]
      refine tkY 40 (cond (!pq&&bB) (.bool bC) undef) rfl (YieldsIf.guard (!pq&&bB) (fun hb=> ?_) (fun hb=> ?_)) hHeld ?_
      ·obtain ⟨hb1,rfl⟩:pq=false∧bB=true:=by simpa using hb
       subst hb1;refine Or.inl ⟨by rfl,?_⟩;intro w' hSw
       try simp only[Bool.not_false,Bool.and_self,cond_true]
       go_simp
       try with_reducible rfl
      ·cases pq<;>cases bB<;>first|rfl|(cases hb)
      try simp only[Act.put,zzA,zzE,zzF,yo,UM,zzD]
      refine tkY 41 (cond (!pq) (.bool q2) undef) rfl (YieldsIf.guard (!pq) (fun hb=> ?_) (fun hb=> ?_)) hHeld ?_
      ·have hb1:pq=false:=by simpa using hb
       subst hb1;refine Or.inl ⟨by rfl,?_⟩;intro w' hSw;have hq:=HQ2.out;cases bB with
       |false=>
        have hq':q2=false:=by rw[←hq];rfl
        subst hq';clear hq;simp only[Bool.not_false,Bool.and_false,cond_true,cond_false];go_simp
       |true=>
        have hq':bC=q2:=by rw[←hq];rfl
        subst hq';clear hq;simp only[Bool.not_false,Bool.and_self,cond_true];go_simp
      ·have hb1:pq=true:=by simpa using hb
       subst hb1;rfl
      try simp only[Act.put,zzA,zzE,zzF,yo,UM,zzD]
      refine tkY 42 (.bool b) rfl (Or.inl ⟨by rfl,?_⟩) hHeld ?_
      ·intro w' hSw;have hq:=N6.out;cases pq with
       |false=>
        have hq':b=q2:=by rw[hq];rfl
        subst hq';clear hq;simp only[Bool.not_false,cond_true];go_simp
       |true=>
        have hq':b=true:=by rw[hq];rfl
        subst hq';clear hq;simp only[Bool.not_true,cond_false];go_simp
      try simp only[Act.put,zzA,zzE,zzF,yo,UM,zzD]
      refine aQ (i:=43) rfl (by kernel_rfl) (by kernel_rfl) (by rfl) (fun K hK=> ?_);go_simp;refine (FD.out).mono ?_;rintro e7 w7 ⟨v7,rfl,hv7,Kj⟩;refine hK _ _ ?_;clear hK K
      try simp only[Act.put,zzA,zzE,zzF,yo,UM,zzD]
      refine tkZ 44 ?_ rfl (Or.inl ⟨by rfl,?_⟩) ?_;rotate_left
      ·intro w' hSw;go_simp
       try with_reducible rfl
      try simp only[Act.put,zzA,zzE,zzF,yo,UM,zzD]
      have q45:=(MI.out.drew.kept Kj.kept Ny.out).cell 0;have r45:=(MI.out.drew.kept Kj.kept Ny.out).frozen 0;simp only[List.getElem?_toArray,List.getElem?_cons_zero] at q45;refine aQ (i:=45) rfl (by kernel_rfl) (by kernel_rfl) (by rfl) (fun K hK=> ?_);go_simp;refine hK _ _ ?_;clear hK K
      try simp only[Act.put,zzA,zzE,zzF,yo,UM,zzD]
      refine aU (by kernel_rfl) ?_ _;refine NoPanic.normal ?_;go_wp2_with fail;go_meet;exact ⟨w7,rfl,hv7,Kj⟩
     case rest=>
     obtain ⟨W',rfl,Y8,Y9⟩:=hcut;have yS:lZ w2 D F g c (aR c (dR s3 x) b).1 W':=lZ.step lI.out HD3.out NR.out (lZ.step Ri.out.drew Vx.out HF9.out Y9);have N5:x.sn=cB s3:=NV.out.2.2.2;have hbq:=HB.out;have hRr:=HRR.out;rw[←hbq,N5] at hRr;have Vz:w2.heap.size≤wB.heap.size:=Nat.le_trans lI.out.size Ri.out.size;obtain ⟨q9,NS⟩:=DT (R:=R) (bs:=nC (cB s3) (aR c (dR s3 x) b).2 false false 0 x.s x.e x.ps) HKK.out yY.out (Nat.le_refl _) hDn HH.out.lt HH.out.sub yS (aW Y8 Vz) (by rw[←hRr]) (by rw[←hRr];rfl) (by rw[←hRr]);have QZ:=Lib.hid NS;have Vm:=Lib.hid q9;clear DW Bf Ri Kk nW Jf Rh Cs FO Vx HF9 Vy FP NY NW NV Vv Cq Vu Vt P7 hbx Hw QJ DV Jd NU sI Q8 HRR BM sN Q9 yQ Ak wu HS Rb Re HXS HX Xt Q6 Q7 Vp NC NT Q5 Xr vw HI3 HB3 P6 lI HD3 NR Vl Jb Be HKK yY HEX HR HF Cn HI1 HT MI HB1 wS HH oF HB Tt FD Y8 Y9 yS hRr NS q9 hbq y0 y1 y13 Ci p0 p1 p2 p3 p4 p5 p6 p7;generalize nC (cB s3) (aR c (dR s3 x) b).2 false false 0 x.s x.e x.ps=bsx at*;go_wp2;refine leaves_cons (f:=53) (args:= #[.pointer (some ⟨w.heap.size,0,none⟩)]) (by simp) (by simp[go_sem]) ?_;refine (fH _ _).mono ?_;rintro e9 u9 w9 ⟨rfl,rfl,rfl⟩;have q:=Vm.out;exact ⟨.tuple #[_,.int .i64 0],by simp[results,Tryz.results50,go_sem,q],QZ.out⟩
 ·have yZ:=yY.out.kept hO3.kept hDn;have P8:=Lib.hid hO3;have Be:=Lib.hid yZ;have hRr:=HR.out;rw[FL HF.out hn hf3] at hRr;have Jb:=Lib.hid hRr;clear yZ hO3 hf3 hRr;go_wp2;refine leaves_cons (f:=53) (args:= #[.pointer (some ⟨w.heap.size,0,none⟩)]) (by simp) (by simp[go_sem]) ?_;refine (mq _ _ w3 Be.out).mono ?_;rintro e9 u9 w9 ⟨rfl,rfl,rfl⟩;have q:=((Be.out.alloc (.cells #[] 174)).aC 0 (.int .i64 8)).cell 0;simp at q;refine ⟨.tuple #[.slice none 0 0,.int .i64 8],by simp[results,Tryz.results50,go_sem,q],?_⟩;rw[←Jb.out];refine I8 rfl rfl ?_;exact (P8.out.alloc _).put HKK.out (Nat.le_refl _) yY.out.lt HH.out.lt HH.out.sub 0 _
end
end
end Go.Proofs.YtiecgfahidpldaaGreat
