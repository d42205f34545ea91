/- amsend: Grant, the calls that give no new PDU. law35: gives. Grant of a transmitter in one form. amrecv: entries. -/
import Derived.Test.YtbhiklnljiehiaaGreatM0af
import Derived.Test.YtbhiklnljiehiaaGreatM0aj
import Derived.Test.YtbhiklnljiehiaaGreatM0am
import Derived.Test.YtbhiklnljiehiaaGreatM0ap
import Derived.Test.YtbhiklnljiehiaaGreatM0aq
import Derived.Test.YtbhiklnljiehiaaGreatM0ar
import Derived.Test.YtbhiklnljiehiaaGreatM0as
import Derived.Deep.RegionHeld3
import Derived.StillTailTactics
import Derived.Deep.DeepCutAuto
namespace Go.Proofs.YtbhiklnljiehiaaGreat
section
open Go.RowKit Go.Shelf
attribute [local go_sem] Oper.semAt_some
section
variable {D F:Nat→Prop} {g:Nat} {c:Cf} {st:Sd} {vq vo:Value} {vs os:List Value} {w:World}
theorem YieldsIf.guard {P:Program} {ops:Array Oper} {S:World→Prop} {o:Oper} {v:Value} {a:Act} (b:Bool) (h1:b=true→YieldsIf P ops S o v a) (h2:b=false→Region.wanted o (yielded ops a.tmps)=false):YieldsIf P ops S o (cond b v undef) a:=by
 cases b with
 |true=>exact h1 rfl
 |false=>exact .inr ⟨h2 rfl,rfl⟩
theorem QB:(Tryz.prog.info? 138).map (fun i=>(i.zero,i.size,i.bytes))=some (some (.pointer none),1,8):=by kernel_rfl
theorem Nt:∃i,Tryz.prog.info? 138=some i∧i.zero=some (.pointer none)∧i.size=1∧i.bytes=8:=by
 have h:=QB;cases hi:Tryz.prog.info? 138 with
 |none=>rw[hi] at h;cases h
 |some i=>
  rw[hi] at h;simp only[Option.map_some,Option.some.injEq,Prod.mk.injEq] at h;exact ⟨i,rfl,h.1,h.2.1,h.2.2⟩
theorem UI:Tryz.prog.underlying 141=some (.slice 138):=by kernel_rfl
theorem gI.drew {p:Nat} {x:Ou} {Ap Ar:Option Addr} {cp cr:Nat} {vp:List Value} (h:gI w D F p x Ap cp vp Ar cr):gI w.drew D F p x Ap cp vp Ar cr:=h.drewN 1
def Fv (w:World) (D F:Nat→Prop) (g:Nat) (c:Cf) (R:Sd × Option Pu × Int) (e:Ending) (w':World):Prop:=
 ∃v,e= .returned (.tuple #[v,.int .i64 R.2.2])∧w'.ownsRow w.heap.size 5 1 v (Qx R.2.1).length (bV (Qx R.2.1))∧kM w D F g c R.1 w'
theorem Ir {R:Sd × Option Pu × Int} {w':World} {er:Int} (h1:R.2.1=none) (h2:R.2.2=er) (h3:kM w D F g c R.1 w'):Fv w D F g c R (.returned (.tuple #[.slice none 0 0,.int .i64 er])) w':=
 ⟨_,by rw[h2],by rw[h1];exact World.ownsRow_nil _ _ _ _,h3⟩
def rP (c:Cf) (s1:Sd) (n:Int):Sd × Option Pu:=
 match fZ s1.out with
  |some i=>match s1.out[i]? with
   |some x=>gX c n s1 i x
   |none=>(s1,none)
  |none=>match ji c n s1 with
   |(s2,none)=>(s2,none)
   |(s2,some (x,b))=>(s2,some ⟨x.sn,b,false,false,0,x.s,x.e,x.ps⟩)
theorem Iu {c:Cf} {st:Sd} {now n:Int} (h1:st.failed=false) (h2:0≤n) (h3:(eX c st now).failed=false):dh c st now n=((rP c (eX c st now) n).1,(rP c (eX c st now) n).2,0):=by
 unfold dh nS rP;rw[if_neg (by simp[h1]),if_neg (by omega),if_neg (by simp[h3])];cases hp:fZ (eX c st now).out with
 |some i=>
  obtain ⟨x,hx,_⟩:=gW hp;simp only[hx];simp
 |none=>
  dsimp only;generalize ji c n (eX c st now)=R;obtain ⟨s2,_|⟨x,b⟩⟩:=R
  ·simp
  ·simp
theorem Fw {c:Cf} {st:Sd} {now n:Int} (h1:st.failed=false) (h2:0≤n) (h3:(eX c st now).failed=true):dh c st now n=(eX c st now,none,8):=by
 unfold dh nS;rw[if_neg (by simp[h1]),if_neg (by omega),if_pos h3];rfl
theorem Dt {W W':World} {be:Nat} {v4:Value} {s1:Sd} {bs:List UInt8} {v:Value} {R:Sd × Option Pu × Int} (hk:Kept (fun k _=>D k) w W) (hb:au W be 53 #[v4]) (hbw:w.heap.size≤be) (hD:¬D be) (hF:∀k,F k→k<w.heap.size) (hDF:∀k,D k→F k)
 (hO:kM W D F g c s1 W') (hv:W'.ownsRow W.heap.size 5 1 v bs.length (bV bs)) (h1:R.1=s1) (h2:Qx R.2.1=bs) (h3:R.2.2=0):
 (W'.setCell ⟨be,0,none⟩ (.int .i64 0)).cell? ⟨be,0,none⟩=some (.int .i64 0)∧Fv w D F g c R (.returned (.tuple #[v,.int .i64 0])) (W'.setCell ⟨be,0,none⟩ (.int .i64 0)):=by
 have hb':=hb.kept hO.kept hD;have:=(hb'.av 0 (.int .i64 0)).cell 0;refine ⟨by simpa using this,v,by rw[h3],?_,?_⟩
 ·rw[h2];exact aR (aJ (i:=0) hv hb' (by decide) _) hk.size
 ·rw[h1];exact hO.put hk hbw hb.lt hF hDF 0 _
set_option maxRecDepth 100000 in
set_option maxHeartbeats 1000000 in
theorem Du (h:dS w D F g c st vq vs vo os) (ht:1≤c.timer) (now n:Int) (hx:st.failed=true∨n<0):
 Calls Tryz.prog 55 #[.pointer (some ⟨g,0,none⟩),.int .i64 now,.int .i64 n] w (Fv w D F g c (dh c st now n)):=by
 have hA:=h.alloc (.cells #[.int .i64 0] 53);have hch:=iV hA ht;have nV:=Lib.hid hch;have HH:=Lib.hid h;cases hf:st.failed with
 |true=>
  rw[hf] at nV;have hfin:dh c st now n=(st,none,8):=by unfold dh;rw[if_pos hf]
  rw[hfin];simp only[if_pos] at nV;clear h hA hch hf hfin hx
  go_enter_defers Tryz.func55,Tryz.ntmps55
  go_wp2_with fail;refine nV.out.mono ?_;rintro e1 w1 ⟨rfl,rfl⟩;go_wp2
  go_region
  go_wp2;refine ⟨.tuple #[.slice none 0 0,.int .i64 8],by simp[results,Tryz.results55,go_sem],Ir rfl rfl ?_⟩;exact ((HH.out.alloc _).o ((Kept.refl _ w).alloc _)).drewN 1
 |false=>
  have hn:n<0:=by
   rcases hx with h|h
   ·rw[hf] at h;cases h
   ·exact h
  rw[hf] at nV;have hfin:dh c st now n=(st,none,2):=by unfold dh;rw[if_neg (by simp[hf]),if_pos hn]
  rw[hfin];simp only[Bool.false_eq_true,if_false] at nV;clear h hA hch hf hfin hx
  go_enter_defers Tryz.func55,Tryz.ntmps55
  go_wp2_with fail;refine nV.out.mono ?_;rintro e1 w1 ⟨rfl,rfl⟩;go_wp2;refine ⟨.tuple #[.slice none 0 0,.int .i64 2],by simp[results,Tryz.results55,go_sem],Ir rfl rfl ?_⟩;exact (HH.out.alloc _).o ((Kept.refl _ w).alloc _)
set_option maxRecDepth 100000 in
set_option maxHeartbeats 40000000 in
theorem Iv (h:dS w D F g c st vq vs vo os) (ht:LD c) {K:Nat} (hB:jk st K) (hK:K≤90000) (hI:bP st) (hf:st.failed=false) (now n:Int) (gQ:now≤9223372036854775807) (hn:0≤n) (hn2:n≤9223372036854775807):
 Calls Tryz.prog 55 #[.pointer (some ⟨g,0,none⟩),.int .i64 now,.int .i64 n] w (Fv w D F g c (dh c st now n)):=by
 have hA:=h.alloc (.cells #[.int .i64 0] 53);have hch:=iV hA ht.timer.1;rw[hf] at hch;simp only[Bool.false_eq_true,if_false] at hch;have nV:=Lib.hid hch;have HH:=Lib.hid h;have hgo:=uX hA now;have qI:=Lib.hid hgo;have hB1:=hB.clock gQ;have HB1:=Lib.hid hB1;have wD:=au.new w 53 #[.int .i64 0];have Gh:=Lib.hid wD;have HT:=Lib.hid ht;have HI1:=Lib.hid (hI.tick c now);have BO:=Lib.hid (hB.tick c gQ);have hw:=hI.w;have hDn:¬D w.heap.size:=h.fresh (Nat.le_refl _);obtain ⟨R,hR⟩:∃R,dh c st now n=R:=⟨_,rfl⟩
 rw[hR];have HR:=Lib.hid hR;have HF:=Lib.hid hf;clear h hA hch hgo hB1 wD hI hB ht hf hR
 go_enter_defers Tryz.func55,Tryz.ntmps55
 go_wp2_with fail;refine nV.out.mono ?_;rintro e1 w1 ⟨rfl,rfl⟩;go_wp2_with fail;refine qI.out.mono ?_;rintro e2 w2 ⟨rfl,hA2,hk2⟩;have hex:=tK hA2 HB1.out (by omega) hw HF.out;have oV:=Gh.out.kept hk2 hDn;have V2:=Lib.hid hex;have qz:=Lib.hid oV;have hkk:Kept (fun k _=>D k) w w2:=((Kept.refl _ w).alloc _).trans hk2;have HKK:=Lib.hid hkk;have hz2:w.heap.size<w2.heap.size:=oV.lt;clear hA2 hex oV hk2 hkk;go_wp2_with fail;refine V2.out.mono ?_;rintro e3 w3 ⟨⟨hf3,rfl⟩|⟨hf3,rfl⟩,hO3⟩
 ·have nK:=qz.out.kept hO3.kept hDn;have hRr:=HR.out;rw[Iu HF.out hn hf3] at hRr;have Ii:=Lib.hid hRr;have uZ:=Lib.hid nK;obtain ⟨D3,F3,vq3,vs3,vo3,os3,hA3,hD3,hF3,hk3⟩:=hO3;have hts:gH c (bW st now)=eX c st now:=rfl;rw[hts] at hA3 hf3;have YO:=HI1.out;have hB3:=BO.out;generalize eX c st now=s3 at*;have YP:Kept (fun k _=>D k) w w3:=HKK.out.trans hk3;have vk:=Lib.hid hA3;have HD3:=Lib.hid hD3;have Ie:=Lib.hid hF3;have lJ:=Lib.hid hk3;have UJ:=Lib.hid YP;have hpn:=sG hA3 (by have:=YO.w;omega);have OE:=Lib.hid hpn;have HI3:=Lib.hid YO;have HB3:=Lib.hid hB3;have YQ:=YO.w;have Iw:=YO.f;unfold I4 at OE;clear nK hRr hD3 hF3 hk3 hf3 hts hpn YO hB3 YP;cases hpa:fZ s3.out with
  |some i=>
   rw[hpa] at OE;obtain ⟨x,hx,hxp,_⟩:=gW hpa;obtain ⟨p,Ap,cp,vp,Ar,cr,he,ho⟩:=hA3.oe i x hx;have hg1:os3[i]?.getD (.pointer none)= .pointer (some ⟨p,0,none⟩):=by rw[he];rfl
   simp only[hg1] at OE;have hag:=Iq hA3 HB3.out YQ Iw hx he ho hxp n hn hn2;have hgb:rP c s3 n=gX c n s3 i x:=by unfold rP;rw[hpa];simp only[hx]
   have hRr:=Ii.out;rw[hgb] at hRr;have HRR:=Lib.hid hRr;have HAG:=Lib.hid hag;clear hA3 hpa hx hxp he ho hg1 hag hgb hRr;go_wp2_with fail;refine OE.out.mono ?_;rintro e4 w4 ⟨rfl,rfl⟩;go_wp2_with fail;refine HAG.out.mono ?_;rintro e5 w5 ⟨v5,rfl,hv5,DY⟩;have Gj:kM w2 D F g c (gX c n s3 i x).1 w5:=kM.step lJ.out HD3.out Ie.out DY;have sM:=qz.out.kept Gj.kept hDn;obtain ⟨q9,Nu⟩:=Dt (R:=R) (bs:=Qx (gX c n s3 i x).2) (v:=v5) HKK.out qz.out (Nat.le_refl _) hDn HH.out.lt HH.out.sub Gj (aR hv5 lJ.out.size) (by rw[←HRR.out]) (by rw[←HRR.out]) (by rw[←HRR.out]);have c5:=sM.cell 0;have f5:=sM.frozen 0;simp at c5;have UK:=Lib.hid Nu;have UL:=Lib.hid q9;clear hv5 DY Gj sM Nu q9;go_wp2;refine leaves_cons (f:=76) (args:= #[.pointer (some ⟨w.heap.size,0,none⟩)]) (by simp) (by simp[go_sem]) ?_;refine (eP _ _).mono ?_;rintro e9 u9 w9 ⟨rfl,rfl,rfl⟩;have q:=UL.out;exact ⟨.tuple #[v5,.int .i64 0],by simp[results,Tryz.results55,go_sem,q],UK.out⟩
  |none=>
   rw[hpa] at OE;simp only at OE;have hgb:rP c s3 n=match ji c n s3 with|(s2,none)=>(s2,none)|(s2,some (x,b))=>(s2,some ⟨x.sn,b,false,false,0,x.s,x.e,x.ps⟩):=by unfold rP;rw[hpa]
   have Wi:=Lib.hid hgb;have uk:=hA3.blk.cell 12;simp[dO] at uk;obtain ⟨Ao,co,rfl,hso⟩:=hA3.Pb;have Yv:=hso.cap;have acR:=hso.mx;have nK:=uZ.out;have c3:=nK.cell 0;have f3:=nK.frozen 0;simp at c3;have vk:=Lib.hid hA3;clear hA3 hpa hgb hso nK;go_wp2_with fail;refine OE.out.mono ?_;rintro e4 w4 ⟨rfl,rfl⟩;by_cases Hz:512≤s3.out.length
   ·have d5:decide (512≤s3.out.length)=true:=decide_eq_true Hz;have hfr:ji c n s3=(s3,none):=by unfold ji;rw[if_pos Hz]
    have hgb:=Wi.out;rw[hfr] at hgb;have hRr:=Ii.out;rw[hgb] at hRr;have HRR:=Lib.hid hRr;have Gj:kM w2 D F g c s3 w3:=kM.step lJ.out HD3.out Ie.out (vk.out.o (Kept.refl _ w3));obtain ⟨q9,Nu⟩:=Dt (R:=R) (bs:= []) (v:= .slice none 0 0) HKK.out qz.out (Nat.le_refl _) hDn HH.out.lt HH.out.sub Gj (World.ownsRow_nil _ _ _ _) (by rw[←HRR.out]) (by rw[←HRR.out];rfl) (by rw[←HRR.out]);have UK:=Lib.hid Nu;have UL:=Lib.hid q9;clear hfr hgb hRr Gj Nu q9;go_wp2;refine leaves_cons (f:=76) (args:= #[.pointer (some ⟨w.heap.size,0,none⟩)]) (by simp) (by simp[go_sem]) ?_;refine (eP _ _).mono ?_;rintro e9 u9 w9 ⟨rfl,rfl,rfl⟩;have q:=UL.out;exact ⟨.tuple #[.slice none 0 0,.int .i64 0],by simp[results,Tryz.results55,go_sem,q],UK.out⟩
   ·have d5:decide (512≤s3.out.length)=false:=decide_eq_false Hz;have hch:=Kt vk.out n hn hn2 HB3.out.JI (by have:=HI3.out.le;have:=HB3.out.held;omega);have QC:=Lib.hid hch;have hfr:ji c n s3=if (dL n s3).ps= [] then (s3,none) else ((bZ c (eF s3 (dL n s3)) (mO c (eF s3 (dL n s3)))).1,some (dL n s3,(bZ c (eF s3 (dL n s3)) (mO c (eF s3 (dL n s3)))).2)):=by unfold ji;rw[if_neg Hz]
    have Jo:=Lib.hid hfr;clear hch hfr;go_wp2_with fail;refine QC.out.mono ?_;rintro e5 w5 ⟨Ap,cp,sB,rfl,Kv,hb5,hsB⟩;dsimp only at Kv hsB ⊢;have hxa:(dL n s3).aV=false∧(dL n s3).pend= []∧(dL n s3).dz=0∧(dL n s3).sn=bJ s3:=⟨rfl,rfl,rfl,rfl⟩;have UM:=chunk_ok HB3.out HI3.out.toInvV n;have UN:=Bb HI3.out.toInvV n;obtain ⟨x,hx⟩:∃x,dL n s3=x:=⟨_,rfl⟩
    rw[hx] at Kv hsB hxa UM UN Jo;simp only[hx];have HX:=Lib.hid hx;have UO:=Lib.hid hxa;have QD:=Lib.hid UM;have QE:=Lib.hid UN;have UQ:=Lib.hid Kv;have yM:=Lib.hid hsB;have Gf:=Lib.hid hb5;have hkb:Kept (fun k _=>D3 k) w3 w5:=(Kept.of_below hb5).fA fun k o ho hm=>by have:=lt_of_heap ho;omega
    have PW:=Lib.hid hkb;have sM:=(uZ.out.below hb5 uZ.out.lt).alloc (.cells #[.bool sB,.bool x.e,.slice Ap x.ps.length cp] 145);have VL:=au.new w5 145 #[.bool sB,.bool x.e,.slice Ap x.ps.length cp];have J5:=(vk.out.below hb5).alloc (.cells #[.bool sB,.bool x.e,.slice Ap x.ps.length cp] 145);have hk5:=hkb.alloc (.cells #[.bool sB,.bool x.e,.slice Ap x.ps.length cp] 145);have qA:=Kv.za ((Below.refl _ w5).alloc (Nat.le_refl _) (.cells #[.bool sB,.bool x.e,.slice Ap x.ps.length cp] 145));have hcap5:x.ps.length≤cp∧cp≤9223372036854775807:=by
     obtain ⟨vl,h1,_⟩:=Kv;exact ⟨(ed h1).cap,(ed h1).mx⟩
    obtain ⟨hcp1,hcp2⟩:=hcap5;have wH:=Lib.hid sM;have Iy:=Lib.hid VL;have Ni:=Lib.hid J5;have rW:=Lib.hid hk5;have QF:=Lib.hid qA;clear hx hxa UM UN Kv hsB hb5 hkb sM VL J5 hk5 qA c3 f3 uk;by_cases hps:x.ps= []
    ·have d6:((x.ps.length:Int)==0)=true:=by rw[hps];rfl
     have hfr:=Jo.out;rw[if_pos hps] at hfr;have hgb:=Wi.out;rw[hfr] at hgb;have hRr:=Ii.out;rw[hgb] at hRr;have HRR:=Lib.hid hRr;have OP:=Lib.hid hps;have Gj:kM w2 D F g c s3 (w5.alloc (.cells #[.bool sB,.bool x.e,.slice Ap x.ps.length cp] 145)):=kM.step lJ.out HD3.out Ie.out (Ni.out.o rW.out);obtain ⟨q9,Nu⟩:=Dt (R:=R) (bs:= []) (v:= .slice none 0 0) HKK.out qz.out (Nat.le_refl _) hDn HH.out.lt HH.out.sub Gj (World.ownsRow_nil _ _ _ _) (by rw[←HRR.out]) (by rw[←HRR.out];rfl) (by rw[←HRR.out]);have UK:=Lib.hid Nu;have UL:=Lib.hid q9;clear hfr hgb hRr Gj Nu q9 hps;go_upto_region 15 with (fail)
     have c5:=wH.out.cell 0;have f5:=wH.out.frozen 0;have d2:(w5.alloc (.cells #[.bool sB,.bool x.e,.slice Ap x.ps.length cp] 145)).cell? ⟨w5.heap.size,2,none⟩=some (.slice Ap x.ps.length cp):=Iy.out.cell 2;simp only[List.getElem?_toArray,List.getElem?_cons_zero] at c5;generalize w5.alloc (.cells #[.bool sB,.bool x.e,.slice Ap x.ps.length cp] 145)=w6 at*;go_wp2;refine leaves_cons (f:=76) (args:= #[.pointer (some ⟨w.heap.size,0,none⟩)]) (by simp) (by simp[go_sem]) ?_;refine (eP _ _).mono ?_;rintro e9 u9 w9 ⟨rfl,rfl,rfl⟩;have q:=UL.out;exact ⟨.tuple #[.slice none 0 0,.int .i64 0],by simp[results,Tryz.results55,go_sem,q],UK.out⟩
    ·have hpl:0<x.ps.length:=List.length_pos_iff.2 hps;have d6:((x.ps.length:Int)==0)=false:=by simp;omega
     have hfr:=Jo.out;rw[if_neg hps] at hfr;have hgb:=Wi.out;rw[hfr] at hgb;have hRr:=Ii.out;rw[hgb] at hRr;have HRR:=Lib.hid hRr;have hok:=QD.out hps;have hsm:=QE.out hps;have hsb:sB=x.s:=yM.out hps;subst hsb;have AR:=Lib.hid hok;have um:=Lib.hid hsm;clear hfr hgb hRr hps hok hsm;go_upto_region 15 with (fail)
     have c5:=wH.out.cell 0;have f5:=wH.out.frozen 0;have d0:(w5.alloc (.cells #[.bool x.s,.bool x.e,.slice Ap x.ps.length cp] 145)).cell? ⟨w5.heap.size,0,none⟩=some (.bool x.s):=Iy.out.cell 0;have d1:(w5.alloc (.cells #[.bool x.s,.bool x.e,.slice Ap x.ps.length cp] 145)).cell? ⟨w5.heap.size,1,none⟩=some (.bool x.e):=Iy.out.cell 1;have d2:(w5.alloc (.cells #[.bool x.s,.bool x.e,.slice Ap x.ps.length cp] 145)).cell? ⟨w5.heap.size,2,none⟩=some (.slice Ap x.ps.length cp):=Iy.out.cell 2;simp only[List.getElem?_toArray,List.getElem?_cons_zero] at c5;have QG:=Lib.hid ((Below.refl w5.heap.size w5).alloc (Nat.le_refl _) (.cells #[.bool x.s,.bool x.e,.slice Ap x.ps.length cp] 145));have I8:=Lib.hid (World.size_alloc w5 (.cells #[.bool x.s,.bool x.e,.slice Ap x.ps.length cp] 145));generalize w5.alloc (.cells #[.bool x.s,.bool x.e,.slice Ap x.ps.length cp] 145)=w6 at*;go_wp2_with fail;have Jl:=Ni.out;have qA:=QF.out;obtain ⟨vl6,QH,UR⟩:=qA;have YR:jg w6 w6.heap.size Ap x.ps.length cp vl6 x.ps:=⟨ed QH,rfl,fun i q hi=>let ⟨A,cq,e,ho⟩:=UR i q hi;⟨A,cq,e,ed ho⟩⟩;have hxs:=AR.out.ps;have wu:∀q∈x.ps,q.length≤1099511627776:=fun q hq=>by
      have:=gJ hq;have:=hxs.sum;omega
     have hxh:=hxs.hi;have hnx:∀W,Below w6.heap.size w6 W→Calls Tryz.prog 87 #[.pointer (some ⟨g,0,none⟩)] W fun e w'=>e= .returned (.int .i64 (bJ s3:Nat))∧Below w6.heap.size w6 w':=fun W hW=>
      (qi (Jl.below hW) Iw (by omega)).mono fun e w' hh=>⟨hh.1,by obtain ⟨q,rfl⟩:=hh.2;exact hW.drewN q⟩
     have hsz:∀W,Below w6.heap.size w6 W→Calls Tryz.prog 88 #[.agg #[.bool x.s,.bool x.e,.slice Ap x.ps.length cp]] W fun e w'=>e= .returned (.int .i64 (aF x:Nat))∧Below w6.heap.size w6 w':=fun W hW=>
      (pz x.s x.e Ap x.ps.length cp vl6 x.ps W ((YR.below hW).more hW.size) (by omega) wu).mono fun e w' hh=>⟨hh.1,hW.trans (hh.2.mono hW.size)⟩
     have adh:=QH;have hl5:w5.heap.size<w6.heap.size:=by have:=I8.out;omega
     have hS:∀W,Below w6.heap.size w6 W→(W.cell? ⟨w5.heap.size,0,none⟩=some (.bool x.s)∧W.cell? ⟨w5.heap.size,1,none⟩=some (.bool x.e)∧W.cell? ⟨w5.heap.size,2,none⟩=some (.slice Ap x.ps.length cp)):=fun W hW=>⟨(hW.cell (p:=⟨w5.heap.size,0,none⟩) hl5).trans d0,(hW.cell (p:=⟨w5.heap.size,1,none⟩) hl5).trans d1,(hW.cell (p:=⟨w5.heap.size,2,none⟩) hl5).trans d2⟩
     have Bu:=Lib.hid hnx;have C6:=Lib.hid hsz;have HS:=Lib.hid hS;have QI:=Lib.hid QH;have QJ:=Lib.hid UR;have HXS:=Lib.hid hxs;clear hnx hsz hS QH UR YR wu hxs Jl adh;go_cut [10] from 44 to 51 (fun s10 wx=>∃p,s10= .pointer (some ⟨p,0,none⟩)∧au wx p 152 #[.int .i64 (bJ s3:Nat),.bool false,.bool false,.bool false,.int .i64 0,.bool x.s,.bool x.e,.slice Ap x.ps.length cp,.int .i64 (aF x:Nat),.bool false,.slice none 0 0,.int .i64 0]∧Below w6.heap.size w6 wx∧w6.heap.size≤p)
     case first=>
      have hb0:=Below.refl w6.heap.size w6
      go_region_held3 (fun W=>W.cell? ⟨w5.heap.size,0,none⟩=some (.bool x.s)∧W.cell? ⟨w5.heap.size,1,none⟩=some (.bool x.e)∧W.cell? ⟨w5.heap.size,2,none⟩=some (.slice Ap x.ps.length cp))
       (first|go_keep|exact HS.out _ (by assumption)|exact HS.out _ (Below.drew (by assumption))|exact HS.out _ (Below.drewN (by assumption) _))
       (first
        |(go_at_call 87;refine (Bu.out _ (by first|assumption|exact Below.drew (by assumption)|exact Below.drewN (by assumption) _)).mono ?_;rintro e7 w7 ⟨rfl,oN⟩)
        |(go_at_call 88;refine (C6.out _ (by first|assumption|exact Below.drew (by assumption)|exact Below.drewN (by assumption) _)).mono ?_;rintro e7 w7 ⟨rfl,oN⟩)
        |fail)
      all_goals
       go_wp2;go_meet;exact ⟨_,rfl,au.new _ _ _,oN.alloc oN.size _,oN.size⟩
     case rest=>
     obtain ⟨p,rfl,hbp,hbx,ajY⟩:=hcut;have hz3:=Gf.out.size;have ajZ:=I8.out;have hzc:=hbx.size;have hbW:Below w3.heap.size w3 wc:=Gf.out.trans ((QG.out.mono hz3).trans (hbx.mono (by omega)));have Qq:=Ni.out.below hbx;have US:aW wc w3.heap.size (.slice Ap x.ps.length cp) x.ps:=aW.za ⟨vl6,QI.out,QJ.out⟩ hbx;have hxa:=UO.out;obtain ⟨xa1,xa2,xa3,xa4⟩:=hxa;have UT:au wc p 152 (Eh x (.slice Ap x.ps.length cp) (.slice none 0 0)):=by
      have e:Eh x (.slice Ap x.ps.length cp) (.slice none 0 0)= #[.int .i64 (bJ s3:Nat),.bool false,.bool false,.bool false,.int .i64 0,.bool x.s,.bool x.e,.slice Ap x.ps.length cp,.int .i64 (aF x:Nat),.bool false,.slice none 0 0,.int .i64 0]:=by
       unfold Eh;rw[xa1,xa3,xa4];rfl
      rw[e];exact hbp
     have hkW:Kept (fun k _=>D k) w2 wc:=lJ.out.step ((Kept.of_below hbW).fA fun k o ho hm=>by have:=lt_of_heap ho;omega) HD3.out;have beW:=wH.out.below hbx wH.out.lt;have uk:=Qq.blk.cell 12;have e12:=Qq.blk.frozen 12;simp[dO] at uk;have adn:=Qq.blk.lt;have OA:=Lib.hid Qq;have UU:=Lib.hid US;have UW:=Lib.hid UT;have Ep:=Lib.hid hbW;have UX:=Lib.hid beW;have Nv:=Lib.hid (And.intro xa1 (And.intro xa2 (And.intro xa3 xa4)));have Nw:=Lib.hid (fun (w8:World) (A8:Option Addr) (c8:Nat) hq8 Pv hf8=>vk.out.grow (W2:=wc) (w5:=w8) (x:=x) (Ap:=Ap) (A5:=A8) (cp:=cp) (c5:=c8) (p:=p) (base:=w3.heap.size) hbW UT (by omega) US (Nat.le_refl _) xa2 (fun q hq=>HXS.out.pos q hq) hq8 Pv hf8);obtain ⟨j1,hj1,hq0,hq1,hq2⟩:=Nt;clear Qq US UT hbW beW xa1 xa2 xa3 xa4 hbp hkW;go_wp2_with (at_builtin;refine wh rfl (.tmp 56) (.tmp 58) 141 rfl j1 (.pointer none) 8 UI hj1 hq0 hq1 hq2 rfl rfl (OA.out.qU.alloc (.cells #[.pointer (some ⟨p,0,none⟩)] 138)) ⟨wc.heap.size,0,none⟩ 1 (.pointer (some ⟨p,0,none⟩)) rfl ?c1 rfl ?c2 ?c3 ?c4 ?_)
     case c1=>exact World.news_of_block (heap_alloc_new wc _) 0 _ rfl
     case c2=>unfold maxLen;omega
     case c3=>omega
     case c4=>omega
     intro v8 w8 Ny Iz hq8;obtain ⟨A8,c8,rfl,hs8⟩:=Ny.sl;obtain ⟨D9,F9,vl9,YA,hD9,hF9,Pp,Wj⟩:=Nw.out w8 A8 c8 Ny Iz (fun k hk=>(hq8 k hk).imp id (fun h=>by rw[World.size_alloc];exact h));have Li:=((OA.out.blk.alloc (.cells #[.pointer (some ⟨p,0,none⟩)] 138)).grown Iz (fun e=>OA.out.Yi.2 e.symm));have YS:=Li.cell 12;have ado:=Li.frozen 12;simp[dO] at YS;have adq:g<(wc.alloc (.cells #[.pointer (some ⟨p,0,none⟩)] 138)).heap.size:=Nat.lt_of_lt_of_le OA.out.blk.lt (by simp);have E9:=Lib.hid YA;have UY:=Lib.hid hD9;have HF9:=Lib.hid hF9;have Pq:=Lib.hid Pp;have Fx:=Lib.hid Wj;have Qf:au (w8.setCell ⟨g,12,none⟩ (.slice A8 (s3.out.length+1) c8)) w.heap.size 53 #[.int .i64 0]:=uZ.out.kept Pp (fun hd=>by
      rcases HD3.out _ hd with e|e
      ·exact hDn e
      ·omega)
     have Nz:=Lib.hid Qf;clear YA hD9 hF9 Pp Wj Ny Iz hq8 hs8 Li Qf;go_upto_region 19 with (fail)
     generalize w8.setCell ⟨g,12,none⟩ (.slice A8 (s3.out.length+1) c8)=w9 at*;clear YS ado uk e12 d0 d1 d2 c5 f5 adq adn;have Dm:=E9.out.blk.cell 10;have e10:=E9.out.blk.frozen 10;have p8:=Fx.out.blk.cell 8;simp[dO] at Dm;simp[Eh] at p8;have hsm:=um.out;have Gu:=HB3.out.held;have Lg:=HB3.out.dD;have hby:=HB3.out.bytes;have aj3:=jc AR.out;have hts:s3.taken+aF x≤1048576:=by omega
     have Nn:=(E9.out.mr 10 (.int .i64 ((s3.taken:Int)+(aF x:Nat))) (st':= {s3 with out:=s3.out++ [x],taken:=s3.taken+aF x}) (by simp[dO]) rfl rfl).drew;have Nl:=(Fx.out.far E9.out.gd (fun e=>E9.out.blk.off Fx.out.blk (by decide) e) 10 (.int .i64 ((s3.taken:Int)+(aF x:Nat)))).drew;have hk10:=(Pq.out.step ((Kept.refl (fun k _=>D9 k) w9).setCell (p:=⟨g,10,none⟩) (fun _ _=>E9.out.gd) (.int .i64 ((s3.taken:Int)+(aF x:Nat)))) UY.out).drew;have Sf:=(Nz.out.far (p:=⟨g,10,none⟩) (fun e=>Nz.out.off E9.out.blk (by decide) e) (.int .i64 ((s3.taken:Int)+(aF x:Nat)))).drew;have nk:=Lib.hid Nn;have IA:=Lib.hid Nl;have QK:=Lib.hid hk10;have BP:=Lib.hid Sf;clear hsm Gu Nn Nl hk10 Sf
     go_region
     generalize (w9.setCell ⟨g,10,none⟩ (.int .i64 ((s3.taken:Int)+(aF x:Nat)))).drew=On at*;clear Dm e10 p8;have y13:=nk.out.blk.cell 13;have Bt:=nk.out.blk.cell 14;have e13:=nk.out.blk.frozen 13;have e14:=nk.out.blk.frozen 14;have p8:=IA.out.blk.cell 8;simp[dO] at y13 Bt;simp[Eh] at p8;go_wp2_with fail;go_cut [] from 73 to 92 (fun wx=>wx=((On.setCell ⟨g,13,none⟩ (.int .i64 ((s3.dD:Int)+1))).setCell ⟨g,14,none⟩ (.int .i64 ((s3.bytes:Int)+(aF x:Nat)))).drew)
     case first=>
      clear nk IA QK BP E9 UY HF9 Pq Fx Nz Nw Nv UX Ep UW UU OA hbx Gf PW wH Iy Ni rW QF HRR AR um QG I8 Bu C6 HS QI QJ HXS HX UO QD QE UQ yM Jo QC Wi vk HI3 HB3 OE lJ HD3 Ie UJ Ii uZ HKK qz V2 HR HF BO HI1 HT Gh HB1 qI HH nV;generalize aF x=sz at*;refine wp_region_noPanic ?_;refine aY (fun w'=>w'.cell? ⟨g,13,none⟩=some (.int .i64 (s3.dD:Nat))∧w'.cell? ⟨g,14,none⟩=some (.int .i64 (s3.bytes:Nat))∧w'.cell? ⟨p,8,none⟩=some (.int .i64 (sz:Nat))) [18,21] (by kernel_rfl) ?_;have hHeld:On.drew.cell? ⟨g,13,none⟩=some (.int .i64 (s3.dD:Nat))∧On.drew.cell? ⟨g,14,none⟩=some (.int .i64 (s3.bytes:Nat))∧On.drew.cell? ⟨p,8,none⟩=some (.int .i64 (sz:Nat)):=⟨y13,Bt,p8⟩;refine aT 0 ?_ rfl (Or.inl ⟨by rfl,?_⟩) hHeld ?_;rotate_left
      ·intro w' hSw;go_simp
       try with_reducible rfl
      try simp only[Act.put,aB,aC,ax,ay,aA]
      refine aT 1 ?_ rfl (Or.inl ⟨by rfl,?_⟩) hHeld ?_;rotate_left
      ·intro w' hSw;go_simp
       try with_reducible rfl
      try simp only[Act.put,aB,aC,aD,ax,ay,aA]
      refine aT 2 ?_ rfl (Or.inl ⟨by rfl,?_⟩) hHeld ?_;rotate_left
      ·intro w' hSw;go_simp
       try with_reducible rfl
      try simp only[Act.put,aB,aC,aD,ax,ay,aA]
      refine aT 3 ?_ rfl (Or.inl ⟨by rfl,?_⟩) hHeld ?_;rotate_left
      ·intro w' hSw;go_simp
       try with_reducible rfl
      try simp only[Act.put,aB,aC,aD,ax,ay,aA]
      refine aT 4 ?_ rfl (Or.inl ⟨by rfl,?_⟩) hHeld ?_;rotate_left
      ·intro w' hSw;go_simp
       try with_reducible rfl
      try simp only[Act.put,aB,aC,aD,ax,ay,aA]
      refine iK [18,21] 5 ?_ rfl (Or.inl ⟨by rfl,?_⟩) hHeld ?_;rotate_left
      ·intro w' hSw;obtain ⟨hS1,hS2,fU⟩:=hSw;go_simp
       try with_reducible rfl
      try simp only[Act.put,aB,aC,aD,ax,ay,aA]
      refine aT 6 ?_ rfl (Or.inl ⟨by rfl,?_⟩) hHeld ?_;rotate_left
      ·intro w' hSw;go_simp
       try with_reducible rfl
      try simp only[Act.put,aB,aC,aD,ax,ay,aA]
      refine aT 7 ?_ rfl (Or.inl ⟨by rfl,?_⟩) hHeld ?_;rotate_left
      ·intro w' hSw;go_simp
       try with_reducible rfl
      try simp only[Act.put,aB,aC,aD,ax,ay,aA]
      refine aT 8 ?_ rfl (Or.inl ⟨by rfl,?_⟩) hHeld ?_;rotate_left
      ·intro w' hSw;go_simp
       try with_reducible rfl
      try simp only[Act.put,aB,aC,aD,ax,ay,aA]
      refine aT 9 ?_ rfl (Or.inl ⟨by rfl,?_⟩) hHeld ?_;rotate_left
      ·intro w' hSw;go_simp
       try with_reducible rfl
      try simp only[Act.put,aB,aC,aD,ax,ay,aA]
      refine iK [18,21] 10 ?_ rfl (Or.inl ⟨by rfl,?_⟩) hHeld ?_;rotate_left
      ·intro w' hSw;obtain ⟨hS1,hS2,fU⟩:=hSw;go_simp
       try with_reducible rfl
      try simp only[Act.put,aB,aC,aD,ax,ay,aA]
      refine aT 11 ?_ rfl (Or.inl ⟨by rfl,?_⟩) hHeld ?_;rotate_left
      ·intro w' hSw;go_simp
       try with_reducible rfl
      try simp only[Act.put,aB,aC,aD,ax,ay,aA]
      refine aT 12 ?_ rfl (Or.inl ⟨by rfl,?_⟩) hHeld ?_;rotate_left
      ·intro w' hSw;go_simp
       try with_reducible rfl
      try simp only[Act.put,aB,aC,aD,ax,ay,aA]
      refine aT 13 ?_ rfl (Or.inl ⟨by rfl,?_⟩) hHeld ?_;rotate_left
      ·intro w' hSw;go_simp
       try with_reducible rfl
      try simp only[Act.put,aB,aC,aD,ax,ay,aA]
      refine iK [18,21] 14 ?_ rfl (Or.inl ⟨by rfl,?_⟩) hHeld ?_;rotate_left
      ·intro w' hSw;obtain ⟨hS1,hS2,fU⟩:=hSw;go_simp
       try with_reducible rfl
      try simp only[Act.put,aB,aC,aD,ax,ay,aA]
      refine aT 15 ?_ rfl (Or.inl ⟨by rfl,?_⟩) hHeld ?_;rotate_left
      ·intro w' hSw;go_simp
       try with_reducible rfl
      try simp only[Act.put,aB,aC,aD,ax,ay,aA]
      refine aT 16 ?_ rfl (Or.inl ⟨by rfl,?_⟩) hHeld ?_;rotate_left
      ·intro w' hSw;go_simp
       try with_reducible rfl
      try simp only[Act.put,aB,aC,aD,ax,ay,aA]
      refine aT 17 ?_ rfl (Or.inl ⟨by rfl,?_⟩) hHeld ?_;rotate_left
      ·intro w' hSw;go_simp
       try with_reducible rfl
      try simp only[Act.put,aB,aC,aD,ax,ay,aA]
      refine bH (i:=18) rfl (by kernel_rfl) (by kernel_rfl) (by rfl) (fun K hK=> ?_);go_simp;refine hK _ _ ?_;clear hK K
      try simp only[Act.put,aB,aC,aD,ax,ay,aA]
      refine jo 19 ?_ rfl (Or.inl ⟨by rfl,?_⟩) ?_;rotate_left
      ·intro w' hSw;go_simp
       try with_reducible rfl
      try simp only[Act.put,aB,aC,aD,ax,ay,aA]
      refine jo 20 ?_ rfl (Or.inl ⟨by rfl,?_⟩) ?_;rotate_left
      ·intro w' hSw;go_simp
       try with_reducible rfl
      try simp only[Act.put,aB,aC,aD,ax,ay,aA]
      refine bH (i:=21) rfl (by kernel_rfl) (by kernel_rfl) (by rfl) (fun K hK=> ?_);go_simp;refine hK _ _ ?_;clear hK K
      try simp only[Act.put,aB,aC,aD,ax,ay,aA]
      refine aX (by kernel_rfl) ?_ _;refine NoPanic.normal ?_;rw[IntWalk.i64_in ((s3.dD:Int)+1) (by omega),IntWalk.i64_in ((s3.bytes:Int)+(sz:Nat)) (by omega)];go_wp2_with fail;go_meet;rfl
     case rest=>
     subst hcut;have YT:=((nk.out.mr 13 (.int .i64 ((s3.dD:Int)+1)) (st':= {s3 with out:=s3.out++ [x],taken:=s3.taken+aF x,dD:=s3.dD+1}) (by simp[dO]) rfl rfl).mr 14 (.int .i64 ((s3.bytes:Int)+(aF x:Nat))) (st':=eF s3 x) (by simp[dO,eF]) rfl rfl).drew;have YU:=((IA.out.far nk.out.gd (fun e=>nk.out.blk.off IA.out.blk (by decide) e) 13 (.int .i64 ((s3.dD:Int)+1))).far nk.out.gd (fun e=>nk.out.blk.off IA.out.blk (by decide) e) 14 (.int .i64 ((s3.bytes:Int)+(aF x:Nat)))).drew;have YV:=(QK.out.step (((Kept.refl (fun k _=>D9 k) On).setCell (p:=⟨g,13,none⟩) (fun _ _=>nk.out.gd) (.int .i64 ((s3.dD:Int)+1))).setCell (p:=⟨g,14,none⟩) (fun _ _=>nk.out.gd) (.int .i64 ((s3.bytes:Int)+(aF x:Nat)))) UY.out).drew;have Sg:=((BP.out.far (p:=⟨g,13,none⟩) (fun e=>BP.out.off nk.out.blk (by decide) e) (.int .i64 ((s3.dD:Int)+1))).far (p:=⟨g,14,none⟩) (fun e=>BP.out.off nk.out.blk (by decide) e) (.int .i64 ((s3.bytes:Int)+(aF x:Nat)))).drew;have Dv:=Lib.hid YT;have AB:=Lib.hid YU;have QL:=Lib.hid YV;have Jp:=Lib.hid Sg;clear YT YU YV Sg y13 Bt e13 e14 p8 hts;generalize (((On.setCell ⟨g,13,none⟩ (.int .i64 ((s3.dD:Int)+1))).setCell ⟨g,14,none⟩ (.int .i64 ((s3.bytes:Int)+(aF x:Nat)))).drew)=ze at*;go_wp2_with fail;have adr:=um.out;have Gu:=HB3.out.held;have E8:bM (eF s3 x)≤1048576:=Gu;have hol:(eF s3 x).out.length≤512:=by
      show (s3.out++ [x]).length≤512
      rw[List.length_append];simp;omega
     have hf1:(eF s3 x).first<1024:=Iw
     obtain ⟨b,hb⟩:∃b,b=mO c (eF s3 x):=⟨_,rfl⟩
     have NA:x.sn=bJ s3:=Nv.out.2.2.2;have hfi:=je Dv.out.drew E8 hol hf1 x.sn false false false 0 x.s x.e Ap x.ps.length cp vl9 x.ps (fun w' hk=>AB.out.drew.Ip Dv.out.drew.lt hk) (og AR.out) (by omega) b;rw[NA] at hfi;have Kw:Calls Tryz.prog 89 #[.pointer (some ⟨g,0,none⟩),.agg #[.int .i64 (bJ s3:Nat),.bool false,.bool false,.bool false,.int .i64 0,.bool x.s,.bool x.e,.slice Ap x.ps.length cp],.bool b] ze.drew (Dp ze.drew D9 F9 g c (bZ c (eF s3 x) b).1 (wo (bJ s3) (bZ c (eF s3 x) b).2 false false 0 x.s x.e x.ps)):=hfi;have Fu:=Lib.hid Kw;have aj4:w.heap.size≠g:=fun e=>Jp.out.off Dv.out.blk (by decide) e
     have hzz:=lJ.out.size;have ads:¬D9 w.heap.size:=fun hd=>by
      rcases UY.out _ hd with e|e
      ·rcases HD3.out _ e with e|e
       ·exact hDn e
       ·omega
      ·omega
     have y0:=Dv.out.blk.cell 0;have y1:=Dv.out.blk.cell 1;have y13:=Dv.out.blk.cell 13;have Bt:=Dv.out.blk.cell 14;simp[dO,eF] at y0 y1 y13 Bt;obtain ⟨p0,p7,p8,p9,p10,p11⟩:=AB.out.cells;obtain ⟨p1,p2,p3,p4,p5,p6⟩:=(show ze.cell? ⟨p,1,none⟩=some (.bool false)∧ze.cell? ⟨p,2,none⟩=some (.bool false)∧ze.cell? ⟨p,3,none⟩=some (.bool false)∧ze.cell? ⟨p,4,none⟩=some (.int .i64 0)∧ze.cell? ⟨p,5,none⟩=some (.bool x.s)∧ze.cell? ⟨p,6,none⟩=some (.bool x.e) from
      ⟨AB.out.blk.cell 1,AB.out.blk.cell 2,AB.out.blk.cell 3,AB.out.blk.cell 4,AB.out.blk.cell 5,AB.out.blk.cell 6⟩)
     rw[NA] at p0;have HB:=Lib.hid hb;have R9:=Lib.hid E8;clear hfi Kw E8 hol hf1 NA hb adr Gu p8 p9 p10 p11;go_cut [6] from 93 to 136 (fun s6 wx=>∃W',wx=W'.setCell ⟨w.heap.size,0,none⟩ (.int .i64 0)∧W'.ownsRow ze.heap.size 5 1 s6 (wo (bJ s3) (bZ c (eF s3 x) b).2 false false 0 x.s x.e x.ps).length (bV (wo (bJ s3) (bZ c (eF s3 x) b).2 false false 0 x.s x.e x.ps))∧kM ze.drew D9 F9 g c (bZ c (eF s3 x) b).1 W')
     case first=>
      have hbb:=HB.out;unfold mO at hbb;have e1:((eF s3 x).dD:Int)=(s3.dD:Int)+1:=by simp[eF]
      have e2:((eF s3 x).bytes:Int)=(s3.bytes:Int)+(aF x:Nat):=by simp[eF]
      rw[e1,e2] at hbb;clear e1 e2;have Gh:=Lib.hid Jp.out;have K9:=Lib.hid ads;clear Dv AB QL Jp nk IA QK BP E9 UY HF9 Pq Fx Nz Nw Nv UX Ep UW UU OA hbx Gf PW wH Iy Ni rW QF HRR AR um QG I8 Bu C6 HS QI QJ HXS HX UO QD QE UQ yM Jo QC Wi vk HI3 HB3 OE lJ HD3 Ie UJ Ii uZ HKK qz V2 HR HF BO HI1 HT HB1 qI HH nV HB R9;have hHeld:=(show ze.drew.cell? ⟨g,0,none⟩=some (.int .i64 c.KY)∧ze.drew.cell? ⟨g,1,none⟩=some (.int .i64 c.byte)∧ze.drew.cell? ⟨g,13,none⟩=some (.int .i64 ((s3.dD:Int)+1))∧ze.drew.cell? ⟨g,14,none⟩=some (.int .i64 ((s3.bytes:Int)+(aF x:Nat)))∧ze.drew.cell? ⟨p,0,none⟩=some (.int .i64 (bJ s3:Nat))∧ze.drew.cell? ⟨p,1,none⟩=some (.bool false)∧ze.drew.cell? ⟨p,2,none⟩=some (.bool false)∧ze.drew.cell? ⟨p,3,none⟩=some (.bool false)∧ze.drew.cell? ⟨p,4,none⟩=some (.int .i64 0)∧ze.drew.cell? ⟨p,5,none⟩=some (.bool x.s)∧ze.drew.cell? ⟨p,6,none⟩=some (.bool x.e)∧ze.drew.cell? ⟨p,7,none⟩=some (.slice Ap x.ps.length cp) from ⟨y0,y1,y13,Bt,p0,p1,p2,p3,p4,p5,p6,p7⟩);clear y0 y1 y13 Bt p0 p1 p2 p3 p4 p5 p6 p7;obtain ⟨bA,d1⟩:∃q,decide (0<c.KY)=q:=⟨_,rfl⟩
      obtain ⟨bE,d2⟩:∃q,decide (c.KY≤(s3.dD:Int)+1)=q:=⟨_,rfl⟩
      obtain ⟨bB,d3⟩:∃q,decide (0<c.byte)=q:=⟨_,rfl⟩
      obtain ⟨bC,d4⟩:∃q,decide (c.byte≤(s3.bytes:Int)+(aF x:Nat))=q:=⟨_,rfl⟩
      rw[d1,d2,d3,d4] at hbb;obtain ⟨pq,hpq⟩:∃q,(bA&&bE)=q:=⟨_,rfl⟩
      obtain ⟨q2,hq2⟩:∃q,(bB&&bC)=q:=⟨_,rfl⟩
      rw[hpq,hq2] at hbb;have HPQ:=Lib.hid hpq;have HQ2:=Lib.hid hq2;have MH:=Lib.hid hbb;clear hpq hq2 hbb;refine wp_region_noPanic ?_;refine aY (fun w'=>w'.cell? ⟨g,0,none⟩=some (.int .i64 c.KY)∧w'.cell? ⟨g,1,none⟩=some (.int .i64 c.byte)∧w'.cell? ⟨g,13,none⟩=some (.int .i64 ((s3.dD:Int)+1))∧w'.cell? ⟨g,14,none⟩=some (.int .i64 ((s3.bytes:Int)+(aF x:Nat)))∧w'.cell? ⟨p,0,none⟩=some (.int .i64 (bJ s3:Nat))∧w'.cell? ⟨p,1,none⟩=some (.bool false)∧w'.cell? ⟨p,2,none⟩=some (.bool false)∧w'.cell? ⟨p,3,none⟩=some (.bool false)∧w'.cell? ⟨p,4,none⟩=some (.int .i64 0)∧w'.cell? ⟨p,5,none⟩=some (.bool x.s)∧w'.cell? ⟨p,6,none⟩=some (.bool x.e)∧w'.cell? ⟨p,7,none⟩=some (.slice Ap x.ps.length cp)) [43] (by kernel_rfl) ?_;refine aT 0 ?_ rfl (Or.inl ⟨by rfl,?_⟩) hHeld ?_;rotate_left
      ·intro w' hSw;go_simp
       try with_reducible rfl
      try simp only[Act.put,aB,aC,ax,ay,aA]
      refine aT 1 ?_ rfl (Or.inl ⟨by rfl,?_⟩) hHeld ?_;rotate_left
      ·intro w' hSw;go_simp
       try with_reducible rfl
      try simp only[Act.put,aB,aC,aD,ax,ay,aA]
      refine aT 2 ?_ rfl (Or.inl ⟨by rfl,?_⟩) hHeld ?_;rotate_left
      ·intro w' hSw;go_simp
       try with_reducible rfl
      try simp only[Act.put,aB,aC,aD,ax,ay,aA]
      refine aT 3 ?_ rfl (Or.inl ⟨by rfl,?_⟩) hHeld ?_;rotate_left
      ·intro w' hSw;go_simp
       try with_reducible rfl
      try simp only[Act.put,aB,aC,aD,ax,ay,aA]
      refine iK [43] 4 ?_ rfl (Or.inl ⟨by rfl,?_⟩) hHeld ?_;rotate_left
      ·intro w' hSw;obtain ⟨hS1,hS2,fU,kI,hS5,mU,qE,rU,rV,ic,Ky,Kz⟩:=hSw;go_simp
       try with_reducible rfl
      try simp only[Act.put,aB,aC,aD,ax,ay,aA]
      refine aT 5 ?_ rfl (Or.inl ⟨by rfl,?_⟩) hHeld ?_;rotate_left
      ·intro w' hSw;go_simp
       try with_reducible rfl
      try simp only[Act.put,aB,aC,aD,ax,ay,aA]
      refine aT 6 ?_ rfl (Or.inl ⟨by rfl,?_⟩) hHeld ?_;rotate_left
      ·intro w' hSw;go_simp
       try with_reducible rfl
      try simp only[Act.put,aB,aC,aD,ax,ay,aA]
      refine aT 7 ?_ rfl (Or.inl ⟨by rfl,?_⟩) hHeld ?_;rotate_left
      ·intro w' hSw;go_simp
       try with_reducible rfl
      try simp only[Act.put,aB,aC,aD,ax,ay,aA]
      refine aT 8 ?_ rfl (Or.inl ⟨by rfl,?_⟩) hHeld ?_;rotate_left
      ·intro w' hSw;go_simp
       try with_reducible rfl
      try simp only[Act.put,aB,aC,aD,ax,ay,aA]
      refine iK [43,42,23,22,11,10] 9 ?_ rfl (Or.inl ⟨by rfl,?_⟩) hHeld ?_;rotate_left
      ·intro w' hSw;obtain ⟨hS1,hS2,fU,kI,hS5,mU,qE,rU,rV,ic,Ky,Kz⟩:=hSw;go_simp
       try with_reducible rfl
      try simp only[Act.put,aB,aC,aD,ax,ay,aA]
      refine aT 10 (.bool bA) rfl (Or.inl ⟨by rfl,?_⟩) hHeld ?_
      ·intro w' hSw;go_simp
       try with_reducible rfl
      try simp only[Act.put,aB,aC,aD,ax,ay,aA]
      refine aT 11 ?_ rfl (Or.inl ⟨by rfl,?_⟩) hHeld ?_;rotate_left
      ·intro w' hSw;go_simp
       try with_reducible rfl
      try simp only[Act.put,aB,aC,aD,ax,ay,aA]
      refine aT 12 (cond bA (.pointer (some ⟨g,0,none⟩)) undef) rfl (YieldsIf.guard bA (fun hb=> ?_) (fun hb=> ?_)) hHeld ?_
      ·subst hb;refine Or.inl ⟨by rfl,?_⟩;intro w' hSw
       try simp only[cond_true]
       go_simp
       try with_reducible rfl
      ·subst hb;rfl
      try simp only[Act.put,aB,aC,aD,ax,ay,aA]
      refine aT 13 (cond bA (.pointer (some ⟨g,0,none⟩)) undef) rfl (YieldsIf.guard bA (fun hb=> ?_) (fun hb=> ?_)) hHeld ?_
      ·subst hb;refine Or.inl ⟨by rfl,?_⟩;intro w' hSw
       try simp only[cond_true]
       go_simp
       try with_reducible rfl
      ·subst hb;rfl
      try simp only[Act.put,aB,aC,aD,ax,ay,aA]
      refine aT 14 (cond bA (.pointer (some ⟨g,13,none⟩)) undef) rfl (YieldsIf.guard bA (fun hb=> ?_) (fun hb=> ?_)) hHeld ?_
      ·subst hb;refine Or.inl ⟨by rfl,?_⟩;intro w' hSw
       try simp only[cond_true]
       go_simp
       try with_reducible rfl
      ·subst hb;rfl
      try simp only[Act.put,aB,aC,aD,ax,ay,aA]
      refine iK [43,42,23,22,21] 15 (cond bA (.int .i64 ((s3.dD:Int)+1)) undef) rfl (YieldsIf.guard bA (fun hb=> ?_) (fun hb=> ?_)) hHeld ?_
      ·subst hb;refine Or.inl ⟨by rfl,?_⟩;intro w' hSw;obtain ⟨hS1,hS2,fU,kI,hS5,mU,qE,rU,rV,ic,Ky,Kz⟩:=hSw
       try simp only[cond_true]
       go_simp
       try with_reducible rfl
      ·subst hb;rfl
      try simp only[Act.put,aB,aC,aD,ax,ay,aA]
      refine aT 16 (cond bA (.pointer (some ⟨g,0,none⟩)) undef) rfl (YieldsIf.guard bA (fun hb=> ?_) (fun hb=> ?_)) hHeld ?_
      ·subst hb;refine Or.inl ⟨by rfl,?_⟩;intro w' hSw
       try simp only[cond_true]
       go_simp
       try with_reducible rfl
      ·subst hb;rfl
      try simp only[Act.put,aB,aC,aD,ax,ay,aA]
      refine aT 17 (cond bA (.pointer (some ⟨g,0,none⟩)) undef) rfl (YieldsIf.guard bA (fun hb=> ?_) (fun hb=> ?_)) hHeld ?_
      ·subst hb;refine Or.inl ⟨by rfl,?_⟩;intro w' hSw
       try simp only[cond_true]
       go_simp
       try with_reducible rfl
      ·subst hb;rfl
      try simp only[Act.put,aB,aC,aD,ax,ay,aA]
      refine aT 18 (cond bA (.pointer (some ⟨g,0,none⟩)) undef) rfl (YieldsIf.guard bA (fun hb=> ?_) (fun hb=> ?_)) hHeld ?_
      ·subst hb;refine Or.inl ⟨by rfl,?_⟩;intro w' hSw
       try simp only[cond_true]
       go_simp
       try with_reducible rfl
      ·subst hb;rfl
      try simp only[Act.put,aB,aC,aD,ax,ay,aA]
      refine aT 19 (cond bA (.pointer (some ⟨g,0,none⟩)) undef) rfl (YieldsIf.guard bA (fun hb=> ?_) (fun hb=> ?_)) hHeld ?_
      ·subst hb;refine Or.inl ⟨by rfl,?_⟩;intro w' hSw
       try simp only[cond_true]
       go_simp
       try with_reducible rfl
      ·subst hb;rfl
      try simp only[Act.put,aB,aC,aD,ax,ay,aA]
      refine iK [43,42,23,22,21] 20 (cond bA (.int .i64 c.KY) undef) rfl (YieldsIf.guard bA (fun hb=> ?_) (fun hb=> ?_)) hHeld ?_
      ·subst hb;refine Or.inl ⟨by rfl,?_⟩;intro w' hSw;obtain ⟨hS1,hS2,fU,kI,hS5,mU,qE,rU,rV,ic,Ky,Kz⟩:=hSw
       try simp only[cond_true]
       go_simp
       try with_reducible rfl
      ·subst hb;rfl
      try simp only[Act.put,aB,aC,aD,ax,ay,aA]
      refine aT 21 (cond bA (.bool bE) undef) rfl (YieldsIf.guard bA (fun hb=> ?_) (fun hb=> ?_)) hHeld ?_
      ·subst hb;refine Or.inl ⟨by rfl,?_⟩;intro w' hSw
       try simp only[cond_true]
       go_simp
       try with_reducible rfl
      ·subst hb;rfl
      try simp only[Act.put,aB,aC,aD,ax,ay,aA]
      refine aT 22 (.bool pq) rfl (Or.inl ⟨by rfl,?_⟩) hHeld ?_
      ·intro w' hSw;have hq:=HPQ.out;cases bA with
       |false=>
        have hq':pq=false:=by rw[←hq];rfl
        subst hq';clear hq;simp only[cond_false];go_simp
       |true=>
        have hq':bE=pq:=by rw[←hq];rfl
        subst hq';clear hq;simp only[cond_true];go_simp
      try simp only[Act.put,aB,aC,aD,ax,ay,aA]
      refine aT 23 ?_ rfl (Or.inl ⟨by rfl,?_⟩) hHeld ?_;rotate_left
      ·intro w' hSw;go_simp
       try with_reducible rfl
      try simp only[Act.put,aB,aC,aD,ax,ay,aA]
      refine aT 24 (cond (!pq) (.pointer (some ⟨g,0,none⟩)) undef) rfl (YieldsIf.guard (!pq) (fun hb=> ?_) (fun hb=> ?_)) hHeld ?_
      ·have hb1:pq=false:=by simpa using hb
       subst hb1;refine Or.inl ⟨by rfl,?_⟩;intro w' hSw
       try simp only[Bool.not_false,cond_true]
       go_simp
       try with_reducible rfl
      ·have hb1:pq=true:=by simpa using hb
       subst hb1;rfl
      try simp only[Act.put,aB,aC,aD,ax,ay,aA]
      refine aT 25 (cond (!pq) (.pointer (some ⟨g,0,none⟩)) undef) rfl (YieldsIf.guard (!pq) (fun hb=> ?_) (fun hb=> ?_)) hHeld ?_
      ·have hb1:pq=false:=by simpa using hb
       subst hb1;refine Or.inl ⟨by rfl,?_⟩;intro w' hSw
       try simp only[Bool.not_false,cond_true]
       go_simp
       try with_reducible rfl
      ·have hb1:pq=true:=by simpa using hb
       subst hb1;rfl
      try simp only[Act.put,aB,aC,aD,ax,ay,aA]
      refine aT 26 (cond (!pq) (.pointer (some ⟨g,0,none⟩)) undef) rfl (YieldsIf.guard (!pq) (fun hb=> ?_) (fun hb=> ?_)) hHeld ?_
      ·have hb1:pq=false:=by simpa using hb
       subst hb1;refine Or.inl ⟨by rfl,?_⟩;intro w' hSw
       try simp only[Bool.not_false,cond_true]
       go_simp
       try with_reducible rfl
      ·have hb1:pq=true:=by simpa using hb
       subst hb1;rfl
      try simp only[Act.put,aB,aC,aD,ax,ay,aA]
      refine aT 27 (cond (!pq) (.pointer (some ⟨g,1,none⟩)) undef) rfl (YieldsIf.guard (!pq) (fun hb=> ?_) (fun hb=> ?_)) hHeld ?_
      ·have hb1:pq=false:=by simpa using hb
       subst hb1;refine Or.inl ⟨by rfl,?_⟩;intro w' hSw
       try simp only[Bool.not_false,cond_true]
       go_simp
       try with_reducible rfl
      ·have hb1:pq=true:=by simpa using hb
       subst hb1;rfl
      try simp only[Act.put,aB,aC,aD,ax,ay,aA]
      refine iK [43,42,41,30,29] 28 (cond (!pq) (.int .i64 c.byte) undef) rfl (YieldsIf.guard (!pq) (fun hb=> ?_) (fun hb=> ?_)) hHeld ?_
      ·have hb1:pq=false:=by simpa using hb
       subst hb1;refine Or.inl ⟨by rfl,?_⟩;intro w' hSw;obtain ⟨hS1,hS2,fU,kI,hS5,mU,qE,rU,rV,ic,Ky,Kz⟩:=hSw
       try simp only[Bool.not_false,cond_true]
       go_simp
       try with_reducible rfl
      ·have hb1:pq=true:=by simpa using hb
       subst hb1;rfl
      try simp only[Act.put,aB,aC,aD,ax,ay,aA]
      refine aT 29 (cond (!pq) (.bool bB) undef) rfl (YieldsIf.guard (!pq) (fun hb=> ?_) (fun hb=> ?_)) hHeld ?_
      ·have hb1:pq=false:=by simpa using hb
       subst hb1;refine Or.inl ⟨by rfl,?_⟩;intro w' hSw
       try simp only[Bool.not_false,cond_true]
       go_simp
       try with_reducible rfl
      ·have hb1:pq=true:=by simpa using hb
       subst hb1;rfl
      try simp only[Act.put,aB,aC,aD,ax,ay,aA]
      refine aT 30 (cond (!pq) (.bool bB) undef) rfl (YieldsIf.guard (!pq) (fun hb=> ?_) (fun hb=> ?_)) hHeld ?_
      ·have hb1:pq=false:=by simpa using hb
       subst hb1;refine Or.inl ⟨by rfl,?_⟩;intro w' hSw
       try simp only[Bool.not_false,cond_true]
       go_simp
       try with_reducible rfl
      ·have hb1:pq=true:=by simpa using hb
       subst hb1;rfl
      try simp only[Act.put,aB,aC,aD,ax,ay,aA]
      refine aT 31 (cond (!pq&&bB) (.pointer (some ⟨g,0,none⟩)) undef) rfl (YieldsIf.guard (!pq&&bB) (fun hb=> ?_) (fun hb=> ?_)) hHeld ?_
      ·obtain ⟨hb1,rfl⟩:pq=false∧bB=true:=by simpa using hb
       subst hb1;refine Or.inl ⟨by rfl,?_⟩;intro w' hSw
       try simp only[Bool.not_false,cond_true]
       go_simp
       try with_reducible rfl
      ·cases pq<;>cases bB<;>first|rfl|(cases hb)
      try simp only[Act.put,aB,aC,aD,ax,ay,aA]
      refine aT 32 (cond (!pq&&bB) (.pointer (some ⟨g,0,none⟩)) undef) rfl (YieldsIf.guard (!pq&&bB) (fun hb=> ?_) (fun hb=> ?_)) hHeld ?_
      ·obtain ⟨hb1,rfl⟩:pq=false∧bB=true:=by simpa using hb
       subst hb1;refine Or.inl ⟨by rfl,?_⟩;intro w' hSw
       try simp only[Bool.not_false,Bool.and_self,cond_true]
       go_simp
       try with_reducible rfl
      ·cases pq<;>cases bB<;>first|rfl|(cases hb)
      try simp only[Act.put,aB,aC,aD,ax,ay,aA]
      refine aT 33 (cond (!pq&&bB) (.pointer (some ⟨g,14,none⟩)) undef) rfl (YieldsIf.guard (!pq&&bB) (fun hb=> ?_) (fun hb=> ?_)) hHeld ?_
      ·obtain ⟨hb1,rfl⟩:pq=false∧bB=true:=by simpa using hb
       subst hb1;refine Or.inl ⟨by rfl,?_⟩;intro w' hSw
       try simp only[Bool.not_false,Bool.and_self,cond_true]
       go_simp
       try with_reducible rfl
      ·cases pq<;>cases bB<;>first|rfl|(cases hb)
      try simp only[Act.put,aB,aC,aD,ax,ay,aA]
      refine iK [43,42,41,40] 34 (cond (!pq&&bB) (.int .i64 ((s3.bytes:Int)+(aF x:Nat))) undef) rfl (YieldsIf.guard (!pq&&bB) (fun hb=> ?_) (fun hb=> ?_)) hHeld ?_
      ·obtain ⟨hb1,rfl⟩:pq=false∧bB=true:=by simpa using hb
       subst hb1;refine Or.inl ⟨by rfl,?_⟩;intro w' hSw;obtain ⟨hS1,hS2,fU,kI,hS5,mU,qE,rU,rV,ic,Ky,Kz⟩:=hSw
       try simp only[Bool.not_false,Bool.and_self,cond_true]
       go_simp
       try with_reducible rfl
      ·cases pq<;>cases bB<;>first|rfl|(cases hb)
      try simp only[Act.put,aB,aC,aD,ax,ay,aA]
      refine aT 35 (cond (!pq&&bB) (.pointer (some ⟨g,0,none⟩)) undef) rfl (YieldsIf.guard (!pq&&bB) (fun hb=> ?_) (fun hb=> ?_)) hHeld ?_
      ·obtain ⟨hb1,rfl⟩:pq=false∧bB=true:=by simpa using hb
       subst hb1;refine Or.inl ⟨by rfl,?_⟩;intro w' hSw
       try simp only[Bool.not_false,Bool.and_self,cond_true]
       go_simp
       try with_reducible rfl
      ·cases pq<;>cases bB<;>first|rfl|(cases hb)
      try simp only[Act.put,aB,aC,aD,ax,ay,aA]
      refine aT 36 (cond (!pq&&bB) (.pointer (some ⟨g,0,none⟩)) undef) rfl (YieldsIf.guard (!pq&&bB) (fun hb=> ?_) (fun hb=> ?_)) hHeld ?_
      ·obtain ⟨hb1,rfl⟩:pq=false∧bB=true:=by simpa using hb
       subst hb1;refine Or.inl ⟨by rfl,?_⟩;intro w' hSw
       try simp only[Bool.not_false,Bool.and_self,cond_true]
       go_simp
       try with_reducible rfl
      ·cases pq<;>cases bB<;>first|rfl|(cases hb)
      try simp only[Act.put,aB,aC,aD,ax,ay,aA]
      refine aT 37 (cond (!pq&&bB) (.pointer (some ⟨g,0,none⟩)) undef) rfl (YieldsIf.guard (!pq&&bB) (fun hb=> ?_) (fun hb=> ?_)) hHeld ?_
      ·obtain ⟨hb1,rfl⟩:pq=false∧bB=true:=by simpa using hb
       subst hb1;refine Or.inl ⟨by rfl,?_⟩;intro w' hSw
       try simp only[Bool.not_false,Bool.and_self,cond_true]
       go_simp
       try with_reducible rfl
      ·cases pq<;>cases bB<;>first|rfl|(cases hb)
      try simp only[Act.put,aB,aC,aD,ax,ay,aA]
      refine aT 38 (cond (!pq&&bB) (.pointer (some ⟨g,1,none⟩)) undef) rfl (YieldsIf.guard (!pq&&bB) (fun hb=> ?_) (fun hb=> ?_)) hHeld ?_
      ·obtain ⟨hb1,rfl⟩:pq=false∧bB=true:=by simpa using hb
       subst hb1;refine Or.inl ⟨by rfl,?_⟩;intro w' hSw
       try simp only[Bool.not_false,Bool.and_self,cond_true]
       go_simp
       try with_reducible rfl
      ·cases pq<;>cases bB<;>first|rfl|(cases hb)
      try simp only[Act.put,aB,aC,aD,ax,ay,aA]
      refine iK [43,42,41,40] 39 (cond (!pq&&bB) (.int .i64 c.byte) undef) rfl (YieldsIf.guard (!pq&&bB) (fun hb=> ?_) (fun hb=> ?_)) hHeld ?_
      ·obtain ⟨hb1,rfl⟩:pq=false∧bB=true:=by simpa using hb
       subst hb1;refine Or.inl ⟨by rfl,?_⟩;intro w' hSw;obtain ⟨hS1,hS2,fU,kI,hS5,mU,qE,rU,rV,ic,Ky,Kz⟩:=hSw
       try simp only[Bool.not_false,Bool.and_self,cond_true]
       go_simp
       try with_reducible rfl
      ·cases pq<;>cases bB<;>first|rfl|(cases hb)
      try simp only[Act.put,aB,aC,aD,ax,ay,aA]
      refine aT 40 (cond (!pq&&bB) (.bool bC) undef) rfl (YieldsIf.guard (!pq&&bB) (fun hb=> ?_) (fun hb=> ?_)) hHeld ?_
      ·obtain ⟨hb1,rfl⟩:pq=false∧bB=true:=by simpa using hb
       subst hb1;refine Or.inl ⟨by rfl,?_⟩;intro w' hSw
       try simp only[Bool.not_false,Bool.and_self,cond_true]
       go_simp
       try with_reducible rfl
      ·cases pq<;>cases bB<;>first|rfl|(cases hb)
      try simp only[Act.put,aB,aC,aD,ax,ay,aA]
      refine aT 41 (cond (!pq) (.bool q2) undef) rfl (YieldsIf.guard (!pq) (fun hb=> ?_) (fun hb=> ?_)) hHeld ?_
      ·have hb1:pq=false:=by simpa using hb
       subst hb1;refine Or.inl ⟨by rfl,?_⟩;intro w' hSw;have hq:=HQ2.out;cases bB with
       |false=>
        have hq':q2=false:=by rw[←hq];rfl
        subst hq';clear hq;simp only[Bool.not_false,Bool.and_false,cond_true,cond_false];go_simp
       |true=>
        have hq':bC=q2:=by rw[←hq];rfl
        subst hq';clear hq;simp only[Bool.not_false,Bool.and_self,cond_true];go_simp
      ·have hb1:pq=true:=by simpa using hb
       subst hb1;rfl
      try simp only[Act.put,aB,aC,aD,ax,ay,aA]
      refine aT 42 (.bool b) rfl (Or.inl ⟨by rfl,?_⟩) hHeld ?_
      ·intro w' hSw;have hq:=MH.out;cases pq with
       |false=>
        have hq':b=q2:=by rw[hq];rfl
        subst hq';clear hq;simp only[Bool.not_false,cond_true];go_simp
       |true=>
        have hq':b=true:=by rw[hq];rfl
        subst hq';clear hq;simp only[Bool.not_true,cond_false];go_simp
      try simp only[Act.put,aB,aC,aD,ax,ay,aA]
      refine bH (i:=43) rfl (by kernel_rfl) (by kernel_rfl) (by rfl) (fun K hK=> ?_);go_simp;refine (Fu.out).mono ?_;rintro e7 w7 ⟨v7,rfl,hv7,Jn⟩;refine hK _ _ ?_;clear hK K
      try simp only[Act.put,aB,aC,aD,ax,ay,aA]
      refine jo 44 ?_ rfl (Or.inl ⟨by rfl,?_⟩) ?_;rotate_left
      ·intro w' hSw;go_simp
       try with_reducible rfl
      try simp only[Act.put,aB,aC,aD,ax,ay,aA]
      have q45:=(Gh.out.drew.kept Jn.kept K9.out).cell 0;have r45:=(Gh.out.drew.kept Jn.kept K9.out).frozen 0;simp only[List.getElem?_toArray,List.getElem?_cons_zero] at q45;refine bH (i:=45) rfl (by kernel_rfl) (by kernel_rfl) (by rfl) (fun K hK=> ?_);go_simp;refine hK _ _ ?_;clear hK K
      try simp only[Act.put,aB,aC,aD,ax,ay,aA]
      refine aX (by kernel_rfl) ?_ _;refine NoPanic.normal ?_;go_wp2_with fail;go_meet;exact ⟨w7,rfl,hv7,Jn⟩
     case rest=>
     obtain ⟨W',rfl,YW,YX⟩:=hcut;have Gj:kM w2 D F g c (bZ c (eF s3 x) b).1 W':=kM.step lJ.out HD3.out Ie.out (kM.step QL.out.drew UY.out HF9.out YX);have NA:x.sn=bJ s3:=Nv.out.2.2.2;have hbq:=HB.out;have hRr:=HRR.out;rw[←hbq,NA] at hRr;have UZ:w2.heap.size≤ze.heap.size:=Nat.le_trans lJ.out.size QL.out.size;obtain ⟨q9,Nu⟩:=Dt (R:=R) (bs:=wo (bJ s3) (bZ c (eF s3 x) b).2 false false 0 x.s x.e x.ps) HKK.out qz.out (Nat.le_refl _) hDn HH.out.lt HH.out.sub Gj (aR YW UZ) (by rw[←hRr]) (by rw[←hRr];rfl) (by rw[←hRr]);have UK:=Lib.hid Nu;have UL:=Lib.hid q9;clear Dv AB QL Jp nk IA QK BP E9 UY HF9 Pq Fx Nz Nw Nv UX Ep UW UU OA hbx Gf PW wH Iy Ni rW QF HRR AR um QG I8 Bu C6 HS QI QJ HXS HX UO QD QE UQ yM Jo QC Wi vk HI3 HB3 OE lJ HD3 Ie UJ Ii uZ HKK qz V2 HR HF BO HI1 HT Gh HB1 qI HH nV HB R9 Fu YW YX Gj hRr Nu q9 hbq y0 y1 y13 Bt p0 p1 p2 p3 p4 p5 p6 p7;generalize wo (bJ s3) (bZ c (eF s3 x) b).2 false false 0 x.s x.e x.ps=bsx at*;go_wp2;refine leaves_cons (f:=76) (args:= #[.pointer (some ⟨w.heap.size,0,none⟩)]) (by simp) (by simp[go_sem]) ?_;refine (eP _ _).mono ?_;rintro e9 u9 w9 ⟨rfl,rfl,rfl⟩;have q:=UL.out;exact ⟨.tuple #[_,.int .i64 0],by simp[results,Tryz.results55,go_sem,q],UK.out⟩
 ·have nK:=qz.out.kept hO3.kept hDn;have M9:=Lib.hid hO3;have uZ:=Lib.hid nK;have hRr:=HR.out;rw[Fw HF.out hn hf3] at hRr;have Ii:=Lib.hid hRr;clear nK hO3 hf3 hRr;go_wp2;refine leaves_cons (f:=76) (args:= #[.pointer (some ⟨w.heap.size,0,none⟩)]) (by simp) (by simp[go_sem]) ?_;refine (jy _ _ w3 uZ.out).mono ?_;rintro e9 u9 w9 ⟨rfl,rfl,rfl⟩;have q:=((uZ.out.alloc (.cells #[] 191)).av 0 (.int .i64 8)).cell 0;simp at q;refine ⟨.tuple #[.slice none 0 0,.int .i64 8],by simp[results,Tryz.results55,go_sem,q],?_⟩;rw[←Ii.out];refine Ir rfl rfl ?_;exact (M9.out.alloc _).put HKK.out (Nat.le_refl _) qz.out.lt HH.out.lt HH.out.sub 0 _
end
end
section
open Go.RowKit Go.Shelf
attribute [local go_sem] Oper.semAt_some
section
variable {w:World} {F:Nat→Prop} {g:Nat} {c:Cf} {st:Sd} {K:Nat}
end
end
section
open Go.RowKit Go.Shelf
section
variable {w:World} {F:Nat→Prop} {g:Nat} {c:Cf} {st:Sd} {K:Nat}
end
end
section
open Go.RowKit Go.Shelf
attribute [local go_sem] Oper.semAt_some
theorem QM {k:Nat} {l:List Fl} (h:k≤l.length):jP k l=l:=by
 unfold jP;rw[show k-l.length=0 by omega];simp
def Fy (p:Sp):Prop:=∀k,p.size=some k→k≤p.fl.length
theorem BQ {sn:Nat} {p:Sp} {k:Nat} (hz:Fy p) (hs:p.size=some k):mq sn (some p)=(eO p.fl 0 0).map (eD sn):=by
 unfold mq;simp only[hs];rw[QM (hz k hs)]
theorem BR {sn:Nat} {p:Sp} (hs:p.size=none):mq sn (some p)=(eO p.fl 0 0).map (eD sn)++ [⟨sn,true,p.fl.length,32767⟩]:=by
 unfold mq;simp only[hs]
def U0 (w:World) (l:List Nk) (e:Ending) (w':World):Prop:=
 ∃v,e= .returned v∧w'.ownsRow w.heap.size 197 4 v l.length (mG l)∧Below w.heap.size w w'
set_option maxRecDepth 10000 in
set_option maxHeartbeats 2000000 in
theorem Dw (sn:Nat) (w:World):Calls Tryz.prog 118 #[.int .i64 (sn:Nat),.pointer none] w (U0 w (mq sn none)):=by
 have b0:=au.new w 3 #[.int .i64 (sn:Nat)];have hB:=(Below.refl w.heap.size w).alloc (Nat.le_refl _) (.cells #[.int .i64 (sn:Nat)] 3);have c0:=b0.cell 0;simp at c0;have HB:=Lib.hid hB;clear hB b0;go_enter Tryz.func118,Tryz.ntmps118;go_wp2;go_ret;refine ⟨_,rfl,?_,HB.out.alloc (by simp) _⟩;have hr:=aR (base':=w.heap.size) (World.ownsRow_lit (e:=197) (size:=4) (w.alloc (.cells #[.int .i64 (sn:Nat)] 3)) #[.int .i64 (sn:Nat),.bool false,.int .i64 0,.int .i64 0] 1 (Nat.le_refl _) (by unfold maxLen;omega) (by rfl)) (by simp);simpa[mq,mG] using hr
set_option maxRecDepth 100000 in
set_option maxHeartbeats 4000000 in
theorem Dx (sn:Nat) (b:Nat) (p:Sp) (vf vd:Value) (w:World) (h:nX w b p vf vd) (ho:wF p) (hz:Fy p):
 Calls Tryz.prog 118 #[.int .i64 (sn:Nat),.pointer (some ⟨b,0,none⟩)] w (U0 w (mq sn (some p))):=by
 obtain ⟨i0,hi,hz0,hz1,hz2⟩:=pW;obtain ⟨A,c,rfl,hfs⟩:=lH.cK h.fr;obtain ⟨Ad,cd,rfl,_,_⟩:=aZ h.dr;have hle:=ho.le;obtain ⟨m,hm⟩:∃m,p.fl.length=m:=⟨_,rfl⟩
 have hcap:=hfs.cap;have hmx:=hfs.mx;have hgl:=ng p.fl 0 0;rw[hm] at hfs hle hcap hgl;have hb:=h.blk;rw[hm] at hb;have hbl:=hb.lt;have z0:=hb.cell 0;have z1:=hb.cell 1;have z2:=hb.cell 2;simp at z0 z1 z2;have hsi:decide ((m:Int)<cB p)=false:=by
  refine decide_eq_false ?_;unfold cB;cases hs:p.size with
  |none=>dsimp only;omega
  |some k=>have:=hz k hs;dsimp only;omega
 have b0:=au.new w 3 #[.int .i64 (sn:Nat)];have b1:=au.new (w.alloc (.cells #[.int .i64 (sn:Nat)] 3)) 165 #[.slice A m c,.slice Ad p.da.length cd,.int .i64 (cB p)];rw[World.size_alloc] at b1;have VQ:=b0.alloc (.cells #[.slice A m c,.slice Ad p.da.length cd,.int .i64 (cB p)] 165);have hB:Below w.heap.size w ((w.alloc (.cells #[.int .i64 (sn:Nat)] 3)).alloc (.cells #[.slice A m c,.slice Ad p.da.length cd,.int .i64 (cB p)] 165)):=((Below.refl _ w).alloc (Nat.le_refl _) _).alloc (by simp) _;have YY:=hfs.below hB;have hsz:((w.alloc (.cells #[.int .i64 (sn:Nat)] 3)).alloc (.cells #[.slice A m c,.slice Ad p.da.length cd,.int .i64 (cB p)] 165)).heap.size=w.heap.size+2:=by simp
 have HB:=Lib.hid hB;have YZ:=Lib.hid YY;have HB0:=Lib.hid VQ;have HB1:=Lib.hid b1;have C6:=Lib.hid hsz;have HM:=Lib.hid hm;have HZ:=Lib.hid hz;clear hB YY VQ b1 b0 hsz hm hfs hb h ho hz;go_enter Tryz.func118,Tryz.ntmps118;go_wp2_with fail;obtain ⟨w2,hw2⟩:∃w2,(w.alloc (.cells #[.int .i64 (sn:Nat)] 3)).alloc (.cells #[.slice A m c,.slice Ad p.da.length cd,.int .i64 (cB p)] 165)=w2:=⟨_,rfl⟩
 rw[hw2] at HB YZ HB0 HB1 C6 ⊢;refine (Ka (w.heap.size+1) w2).mono ?_;rintro e3 w3 ⟨rfl,rfl⟩;have hgv:=au.new w2 161 #[.pointer (some ⟨w.heap.size+1,0,none⟩)];have hb3:=HB1.out.alloc (.cells #[.pointer (some ⟨w.heap.size+1,0,none⟩)] 161);have hs3:=HB0.out.alloc (.cells #[.pointer (some ⟨w.heap.size+1,0,none⟩)] 161);have Y0:=yL w2.heap.size (w.heap.size+1) w.heap.size A m c p.fl sn (w2.alloc (.cells #[.pointer (some ⟨w.heap.size+1,0,none⟩)] 161)) (by omega) hgv (by have:=C6.out;simp;omega) (hb3.cell 0) (YZ.out.below ((Below.refl _ w2).alloc (Nat.le_refl _) _)) (hs3.cell 0) (by have:=C6.out;simp;omega);have Y1:=Lib.hid Y0;have HB3:=Lib.hid hb3;have zJ:=Lib.hid hs3;have Ep:=Lib.hid (HB.out.alloc HB.out.size (.cells #[.pointer (some ⟨w.heap.size+1,0,none⟩)] 161));clear hgv hb3 hs3 Y0 hw2 HB HB0 HB1 YZ;go_wp2_with fail;refine Y1.out.mono ?_;rintro e4 w4 ⟨v,rfl,hv4,hb4⟩;clear Y1;have hB4:=Ep.out.trans (hb4.mono Ep.out.size);have U1:=HB3.out.below hb4 HB3.out.lt;have hs4:=zJ.out.below hb4 zJ.out.lt;have c0:=hs4.cell 0;have c1:=U1.cell 0;have c3:=U1.cell 2;simp at c0 c1 c3;have NB:=aR (base':=w.heap.size) hv4 Ep.out.size;obtain ⟨Av,cv,rfl,_,_⟩:=bI.cK (l:=(eO p.fl 0 0).map (eD sn)) NB;have Y2:=Lib.hid NB;have Ak:=Lib.hid hB4;have HS4:=Lib.hid hs4;clear hv4 NB hB4 hb4 U1 hs4 HB3 zJ;cases hs:p.size with
 |some k=>
  have hdd:cB p=(k:Int):=by unfold cB;rw[hs]
  rw[hdd] at c3;have HE:=Lib.hid (BQ (sn:=sn) HZ.out hs);clear hdd hs;go_wp2_with fail;go_ret;rw[HE.out];refine ⟨.slice Av (eO p.fl 0 0).length cv,rfl,?_,Ak.out⟩;have h9:=Y2.out;rw[List.length_map] at h9 ⊢;exact h9
 |none=>
  have hdd:cB p= -1:=by unfold cB;rw[hs]
  rw[hdd] at c3;have HE:=Lib.hid (BR (sn:=sn) hs);clear hdd hs;obtain ⟨L,hL⟩:∃L,(eO p.fl 0 0).map (eD sn)=L:=⟨_,rfl⟩
  rw[hL] at Y2 HE ⊢;have VK:L.length≤100001:=by rw[←hL,List.length_map];omega
  clear hL hgl;have HV5:=Lib.hid (Y2.out.alloc (.cells (Bz ⟨sn,true,m,32767⟩) 197));have hnk:=De w4 ⟨sn,true,m,32767⟩;simp only[Bz] at HV5 hnk;have Ul:=Lib.hid hnk;have Gf:=Lib.hid (Ak.out.alloc Ak.out.size (.cells (Bz ⟨sn,true,m,32767⟩) 197));simp only[Bz] at Gf;clear hnk;go_wp2_with (at_builtin;refine fQ _ rfl _ _ 131 rfl w.heap.size 197 i0 (.agg #[.int .i64 0,.bool false,.int .i64 0,.int .i64 0]) 32 rH hi hz0 hz1 hz2 rfl (.slice Av L.length cv) L.length (mG L) rfl HV5.out (some ⟨w4.heap.size,0,none⟩) 1 1 [⟨sn,true,m,32767⟩] rfl Ul.out ?c3 ?c4 ?c5 ?_)
  case c3=>unfold maxLen;omega
  case c4=>omega
  case c5=>have:=Ak.out.size;simp;omega
  intro v' w5 hown5 dF;go_wp2_with fail;go_ret;rw[HE.out,HM.out];refine ⟨v',rfl,?_,Gf.out.grown dF Gf.out.size (fun j hj=>(HV5.out.lt j hj).1)⟩;rw[tF,List.length_append];exact hown5
end
end Go.Proofs.YtbhiklnljiehiaaGreat
