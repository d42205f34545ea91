/- amsend: Grant, the calls that give no ne. -/
import Derived.Test.YtbhiklnljiehiaaGreatM1at
import Derived.Test.YtbhiklnljiehiaaGreatM1au
import Derived.Test.YtbhiklnljiehiaaGreatM1aw
namespace Go.Proofs.YtbhiklnljiehiaaGreat
section
open Go.RowKit Go.Shelf
attribute [local go_sem] Oper.semAt_some
section
variable {D F:Nat→Prop} {g:Nat} {c:Cf} {st:Sd} {vq vo:Value} {vs os:List Value} {w:World}
theorem YieldsIf.guard {P:Program} {ops:Array Oper} {S:World→Prop} {o:Oper} {v:Value} {a:Act} (b:Bool) (h1:b=true→YieldsIf P ops S o v a) (h2:b=false→Region.wanted o (yielded ops a.tmps)=false):YieldsIf P ops S o (cond b v undef) a:=by
 cases b with
 |true=>exact h1 rfl
 |false=>exact .inr ⟨h2 rfl,rfl⟩
theorem Ul:(Tryz.prog.info? 138).map (fun i=>(i.zero,i.size,i.bytes))=some (some (.pointer none),1,8):=by kernel_rfl
theorem Qz:∃i,Tryz.prog.info? 138=some i∧i.zero=some (.pointer none)∧i.size=1∧i.bytes=8:=by
 have h:=Ul;cases hi:Tryz.prog.info? 138 with
 |none=>rw[hi] at h;cases h
 |some i=>
  rw[hi] at h;simp only[Option.map_some,Option.some.injEq,Prod.mk.injEq] at h;exact ⟨i,rfl,h.1,h.2.1,h.2.2⟩
theorem Yg:Tryz.prog.underlying 141=some (.slice 138):=by kernel_rfl
theorem iH.drew {p:Nat} {x:Ou} {Ap Ar:Option Addr} {cp cr:Nat} {vp:List Value} (h:iH w D F p x Ap cp vp Ar cr):iH w.drew D F p x Ap cp vp Ar cr:=h.drewN 1
def IW (w:World) (D F:Nat→Prop) (g:Nat) (c:Cf) (R:Sd × Option Pu × Int) (e:Ending) (w':World):Prop:=
 ∃v,e= .returned (.tuple #[v,.int .i64 R.2.2])∧w'.ownsRow w.heap.size 5 1 v (IU R.2.1).length (bQ (IU R.2.1))∧mg w D F g c R.1 w'
theorem KQ {R:Sd × Option Pu × Int} {w':World} {er:Int} (h1:R.2.1=none) (h2:R.2.2=er) (h3:mg w D F g c R.1 w'):IW w D F g c R (.returned (.tuple #[.slice none 0 0,.int .i64 er])) w':=
 ⟨_,by rw[h2],by rw[h1];exact World.ownsRow_nil _ _ _ _,h3⟩
def uO (c:Cf) (s1:Sd) (n:Int):Sd × Option Pu:=
 match gU s1.out with
  |some i=>match s1.out[i]? with
   |some x=>fQ c n s1 i x
   |none=>(s1,none)
  |none=>match fA c n s1 with
   |(s2,none)=>(s2,none)
   |(s2,some (x,b))=>(s2,some ⟨x.sn,b,false,false,0,x.s,x.e,x.ps⟩)
theorem KR {c:Cf} {st:Sd} {now n:Int} (h1:st.failed=false) (h2:0≤n) (h3:(eX c st now).failed=false):bV c st now n=((uO c (eX c st now) n).1,(uO c (eX c st now) n).2,0):=by
 unfold bV mM uO;rw[if_neg (by simp[h1]),if_neg (by omega),if_neg (by simp[h3])];cases hp:gU (eX c st now).out with
 |some i=>
  obtain ⟨x,hx,_⟩:=gI hp;simp only[hx];simp
 |none=>
  dsimp only;generalize fA c n (eX c st now)=R;obtain ⟨s2,_|⟨x,b⟩⟩:=R
  ·simp
  ·simp
theorem IX {c:Cf} {st:Sd} {now n:Int} (h1:st.failed=false) (h2:0≤n) (h3:(eX c st now).failed=true):bV c st now n=(eX c st now,none,8):=by
 unfold bV mM;rw[if_neg (by simp[h1]),if_neg (by omega),if_pos h3];rfl
theorem F6 {W W':World} {be:Nat} {v4:Value} {s1:Sd} {bs:List UInt8} {v:Value} {R:Sd × Option Pu × Int} (hk:Kept (fun k _=>D k) w W) (hb:au W be 53 #[v4]) (hbw:w.heap.size≤be) (hD:¬D be) (hF:∀k,F k→k<w.heap.size) (hDF:∀k,D k→F k)
 (hO:mg W D F g c s1 W') (hv:W'.ownsRow W.heap.size 5 1 v bs.length (bQ bs)) (h1:R.1=s1) (h2:IU R.2.1=bs) (h3:R.2.2=0):
 (W'.setCell ⟨be,0,none⟩ (.int .i64 0)).cell? ⟨be,0,none⟩=some (.int .i64 0)∧IW w D F g c R (.returned (.tuple #[v,.int .i64 0])) (W'.setCell ⟨be,0,none⟩ (.int .i64 0)):=by
 have hb':=hb.kept hO.kept hD;have:=(hb'.av 0 (.int .i64 0)).cell 0;refine ⟨by simpa using this,v,by rw[h3],?_,?_⟩
 ·rw[h2];exact aU (aL (i:=0) hv hb' (by decide) _) hk.size
 ·rw[h1];exact hO.put hk hbw hb.lt hF hDF 0 _
set_option maxRecDepth 100000 in
set_option maxHeartbeats 1000000 in
theorem F7 (h:eZ w D F g c st vq vs vo os) (ht:1≤c.timer) (now n:Int) (hx:st.failed=true∨n<0):
 Calls Tryz.prog 55 #[.pointer (some ⟨g,0,none⟩),.int .i64 now,.int .i64 n] w (IW w D F g c (bV c st now n)):=by
 have hA:=h.alloc (.cells #[.int .i64 0] 53);have hch:=jG hA ht;have qi:=ah hch;have HH:=ah h;cases hf:st.failed with
 |true=>
  rw[hf] at qi;have hfin:bV c st now n=(st,none,8):=by unfold bV;rw[if_pos hf]
  rw[hfin];simp only[if_pos] at qi;clear h hA hch hf hfin hx
  go_enter_defers Tryz.func55,Tryz.ntmps55
  go_wp2_with fail;refine qi.out.mono ?_;rintro e1 w1 ⟨rfl,rfl⟩;go_wp2
  go_region
  go_wp2;refine ⟨.tuple #[.slice none 0 0,.int .i64 8],by simp[results,Tryz.results55,go_sem],KQ rfl rfl ?_⟩;exact ((HH.out.alloc _).o ((Kept.refl _ w).alloc _)).drewN 1
 |false=>
  have hn:n<0:=by
   rcases hx with h|h
   ·rw[hf] at h;cases h
   ·exact h
  rw[hf] at qi;have hfin:bV c st now n=(st,none,2):=by unfold bV;rw[if_neg (by simp[hf]),if_pos hn]
  rw[hfin];simp only[Bool.false_eq_true,if_false] at qi;clear h hA hch hf hfin hx
  go_enter_defers Tryz.func55,Tryz.ntmps55
  go_wp2_with fail;refine qi.out.mono ?_;rintro e1 w1 ⟨rfl,rfl⟩;go_wp2;refine ⟨.tuple #[.slice none 0 0,.int .i64 2],by simp[results,Tryz.results55,go_sem],KQ rfl rfl ?_⟩;exact (HH.out.alloc _).o ((Kept.refl _ w).alloc _)
set_option maxRecDepth 100000 in
set_option maxHeartbeats 40000000 in
theorem KS (h:eZ w D F g c st vq vs vo os) (ht:Pf c) {K:Nat} (hB:jW st K) (hK:K≤90000) (hI:dz st) (hf:st.failed=false) (now n:Int) (dM:now≤9223372036854775807) (hn:0≤n) (hn2:n≤9223372036854775807):
 Calls Tryz.prog 55 #[.pointer (some ⟨g,0,none⟩),.int .i64 now,.int .i64 n] w (IW w D F g c (bV c st now n)):=by
 have hA:=h.alloc (.cells #[.int .i64 0] 53);have hch:=jG hA ht.timer.1;rw[hf] at hch;simp only[Bool.false_eq_true,if_false] at hch;have qi:=ah hch;have HH:=ah h;have hgo:=xY hA now;have tV:=ah hgo;have hB1:=hB.clock dM;have HB1:=ah hB1;have zi:=au.new w 53 #[.int .i64 0];have JC:=ah zi;have HT:=ah ht;have HI1:=ah (hI.tick c now);have Ez:=ah (hB.tick c dM);have hw:=hI.w;have hDn:¬D w.heap.size:=h.fresh (aN);obtain ⟨R,hR⟩:∃R,bV c st now n=R:=⟨_,rfl⟩
 rw[hR];have HR:=ah hR;have HF:=ah hf;clear h hA hch hgo hB1 zi hI hB ht hf hR
 go_enter_defers Tryz.func55,Tryz.ntmps55
 go_wp2_with fail;refine qi.out.mono ?_;rintro e1 w1 ⟨rfl,rfl⟩;go_wp2_with fail;refine tV.out.mono ?_;rintro e2 w2 ⟨rfl,hA2,hk2⟩;have hex:=wJ hA2 HB1.out (by omega) hw HF.out;have qV:=JC.out.kept hk2 hDn;have ZG:=ah hex;have sW:=ah qV;have hkk:Kept (fun k _=>D k) w w2:=((Kept.refl _ w).alloc _).trans hk2;have HKK:=ah hkk;have hz2:w.heap.size<w2.heap.size:=qV.lt;clear hA2 hex qV hk2 hkk;go_wp2_with fail;refine ZG.out.mono ?_;rintro e3 w3 ⟨⟨hf3,rfl⟩|⟨hf3,rfl⟩,hO3⟩
 ·have pX:=sW.out.kept hO3.kept hDn;have hRr:=HR.out;rw[KR HF.out hn hf3] at hRr;have KG:=ah hRr;have yc:=ah pX;obtain ⟨D3,F3,vq3,vs3,vo3,os3,hA3,hD3,hF3,hk3⟩:=hO3;have hts:gV c (fO st now)=eX c st now:=rfl;rw[hts] at hA3 hf3;have hI3:=HI1.out;have hB3:=Ez.out;generalize eX c st now=s3 at*;have ace:Kept (fun k _=>D k) w w3:=HKK.out.trans hk3;have yh:=ah hA3;have HD3:=ah hD3;have KD:=ah hF3;have nJ:=ah hk3;have Yh:=ah ace;have hpn:=vV hA3 (by have:=hI3.w;omega);have Sc:=ah hpn;have HI3:=ah hI3;have HB3:=ah hB3;have acf:=hI3.w;have KT:=hI3.f;unfold LD at Sc;clear pX hRr hD3 hF3 hk3 hf3 hts hpn hI3 hB3 ace;cases hpa:gU s3.out with
  |some i=>
   rw[hpa] at Sc;obtain ⟨x,hx,hxp,_⟩:=gI hpa;obtain ⟨p,Ap,cp,vp,Ar,cr,he,ho⟩:=hA3.oe i x hx;have hg1:os3[i]?.getD (.pointer none)= .pointer (some ⟨p,0,none⟩):=by rw[he];rfl
   simp only[hg1] at Sc;have hag:=KP hA3 HB3.out acf KT hx he ho hxp n hn hn2;have hgb:uO c s3 n=fQ c n s3 i x:=by unfold uO;rw[hpa];simp only[hx]
   have hRr:=KG.out;rw[hgb] at hRr;have HRR:=ah hRr;have HAG:=ah hag;clear hA3 hpa hx hxp he ho hg1 hag hgb hRr;go_wp2_with fail;refine Sc.out.mono ?_;rintro e4 w4 ⟨rfl,rfl⟩;go_wp2_with fail;refine HAG.out.mono ?_;rintro e5 w5 ⟨v5,rfl,hv5,Gz⟩;have JE:mg w2 D F g c (fQ c n s3 i x).1 w5:=mg.step nJ.out HD3.out KD.out Gz;have vQ:=sW.out.kept JE.kept hDn;obtain ⟨q9,QA⟩:=F6 (R:=R) (bs:=IU (fQ c n s3 i x).2) (v:=v5) HKK.out sW.out (aN) hDn HH.out.lt HH.out.sub JE (aU hv5 nJ.out.size) (by rw[←HRR.out]) (by rw[←HRR.out]) (by rw[←HRR.out]);have c5:=vQ.cell 0;have f5:=vQ.frozen 0;simp at c5;have KU:=ah QA;have Yi:=ah q9;clear hv5 Gz JE vQ QA q9;go_wp2;refine leaves_cons (f:=76) (args:= #[.pointer (some ⟨w.heap.size,0,none⟩)]) (by simp) (by simp[go_sem]) ?_;refine (fT _ _).mono ?_;rintro e9 u9 w9 ⟨rfl,rfl,rfl⟩;have q:=Yi.out;exact ⟨.tuple #[v5,.int .i64 0],by simp[results,Tryz.results55,go_sem,q],KU.out⟩
  |none=>
   rw[hpa] at Sc;simp only at Sc;have hgb:uO c s3 n=match fA c n s3 with|(s2,none)=>(s2,none)|(s2,some (x,b))=>(s2,some ⟨x.sn,b,false,false,0,x.s,x.e,x.ps⟩):=by unfold uO;rw[hpa]
   have ZQ:=ah hgb;have xh:=hA3.blk.cell 12;simp[eU] at xh;obtain ⟨Ao,co,rfl,hso⟩:=hA3.Tg;have abR:=hso.cap;have agD:=hso.mx;have pX:=yc.out;have c3:=pX.cell 0;have f3:=pX.frozen 0;simp at c3;have yh:=ah hA3;clear hA3 hpa hgb hso pX;go_wp2_with fail;refine Sc.out.mono ?_;rintro e4 w4 ⟨rfl,rfl⟩;by_cases Kw:512≤s3.out.length
   ·have d5:decide (512≤s3.out.length)=true:=decide_eq_true Kw;have hfr:fA c n s3=(s3,none):=by unfold fA;rw[if_pos Kw]
    have hgb:=ZQ.out;rw[hfr] at hgb;have hRr:=KG.out;rw[hgb] at hRr;have HRR:=ah hRr;have JE:mg w2 D F g c s3 w3:=mg.step nJ.out HD3.out KD.out (yh.out.o (Kept.refl _ w3));obtain ⟨q9,QA⟩:=F6 (R:=R) (bs:= []) (v:= .slice none 0 0) HKK.out sW.out (aN) hDn HH.out.lt HH.out.sub JE (World.ownsRow_nil _ _ _ _) (by rw[←HRR.out]) (by rw[←HRR.out];rfl) (by rw[←HRR.out]);have KU:=ah QA;have Yi:=ah q9;clear hfr hgb hRr JE QA q9;go_wp2;refine leaves_cons (f:=76) (args:= #[.pointer (some ⟨w.heap.size,0,none⟩)]) (by simp) (by simp[go_sem]) ?_;refine (fT _ _).mono ?_;rintro e9 u9 w9 ⟨rfl,rfl,rfl⟩;have q:=Yi.out;exact ⟨.tuple #[.slice none 0 0,.int .i64 0],by simp[results,Tryz.results55,go_sem,q],KU.out⟩
   ·have d5:decide (512≤s3.out.length)=false:=decide_eq_false Kw;have hch:=Nn yh.out n hn hn2 HB3.out.MJ (by have:=HI3.out.le;have:=HB3.out.held;omega);have Um:=ah hch;have hfr:fA c n s3=if (bH n s3).ps= [] then (s3,none) else ((bK c (eD s3 (bH n s3)) (iV c (eD s3 (bH n s3)))).1,some (bH n s3,(bK c (eD s3 (bH n s3)) (iV c (eD s3 (bH n s3)))).2)):=by unfold fA;rw[if_neg Kw]
    have Mb:=ah hfr;clear hch hfr;go_wp2_with fail;refine Um.out.mono ?_;rintro e5 w5 ⟨Ap,cp,sB,rfl,Nr,hb5,hsB⟩;dsimp only at Nr hsB ⊢;have hxa:(bH n s3).bY=false∧(bH n s3).pend= []∧(bH n s3).dW=0∧(bH n s3).sn=bZ s3:=⟨rfl,rfl,rfl,rfl⟩;have Yj:=chunk_ok HB3.out HI3.out.toInvV n;have Yk:=DZ HI3.out.toInvV n;obtain ⟨x,hx⟩:∃x,bH n s3=x:=⟨_,rfl⟩
    rw[hx] at Nr hsB hxa Yj Yk Mb;simp only[hx];have HX:=ah hx;have Yl:=ah hxa;have Un:=ah Yj;have Uo:=ah Yk;have Ym:=ah Nr;have BK:=ah hsB;have JA:=ah hb5;have hkb:Kept (fun k _=>D3 k) w3 w5:=(Kept.of_below hb5).gH fun k o ho hm=>by have:=lt_of_heap ho;omega
    have TD:=ah hkb;have vQ:=(yc.out.below hb5 yc.out.lt).alloc (.cells #[.bool sB,.bool x.e,.slice Ap x.ps.length cp] 145);have Zm:=au.new w5 145 #[.bool sB,.bool x.e,.slice Ap x.ps.length cp];have MX:=(yh.out.below hb5).alloc (.cells #[.bool sB,.bool x.e,.slice Ap x.ps.length cp] 145);have hk5:=hkb.alloc (.cells #[.bool sB,.bool x.e,.slice Ap x.ps.length cp] 145);have tq:=Nr.Cb ((Below.refl _ w5).alloc (aN) (.cells #[.bool sB,.bool x.e,.slice Ap x.ps.length cp] 145));have hcap5:x.ps.length≤cp∧cp≤9223372036854775807:=by
     obtain ⟨vl,h1,_⟩:=Nr;exact ⟨(fC h1).cap,(fC h1).mx⟩
    obtain ⟨hcp1,hcp2⟩:=hcap5;have zu:=ah vQ;have KV:=ah Zm;have Qr:=ah MX;have ve:=ah hk5;have Up:=ah tq;clear hx hxa Yj Yk Nr hsB hb5 hkb vQ Zm MX hk5 tq c3 f3 xh;by_cases hps:x.ps= []
    ·have d6:((x.ps.length:Int)==0)=true:=by rw[hps];rfl
     have hfr:=Mb.out;rw[if_pos hps] at hfr;have hgb:=ZQ.out;rw[hfr] at hgb;have hRr:=KG.out;rw[hgb] at hRr;have HRR:=ah hRr;have zW:=ah hps;have JE:mg w2 D F g c s3 (w5.alloc (.cells #[.bool sB,.bool x.e,.slice Ap x.ps.length cp] 145)):=mg.step nJ.out HD3.out KD.out (Qr.out.o ve.out);obtain ⟨q9,QA⟩:=F6 (R:=R) (bs:= []) (v:= .slice none 0 0) HKK.out sW.out (aN) hDn HH.out.lt HH.out.sub JE (World.ownsRow_nil _ _ _ _) (by rw[←HRR.out]) (by rw[←HRR.out];rfl) (by rw[←HRR.out]);have KU:=ah QA;have Yi:=ah q9;clear hfr hgb hRr JE QA q9 hps;go_upto_region 15 with (fail)
     have c5:=zu.out.cell 0;have f5:=zu.out.frozen 0;have d2:(w5.alloc (.cells #[.bool sB,.bool x.e,.slice Ap x.ps.length cp] 145)).cell? ⟨w5.heap.size,2,none⟩=some (.slice Ap x.ps.length cp):=KV.out.cell 2;simp only[List.getElem?_toArray,List.getElem?_cons_zero] at c5;generalize w5.alloc (.cells #[.bool sB,.bool x.e,.slice Ap x.ps.length cp] 145)=w6 at*;go_wp2;refine leaves_cons (f:=76) (args:= #[.pointer (some ⟨w.heap.size,0,none⟩)]) (by simp) (by simp[go_sem]) ?_;refine (fT _ _).mono ?_;rintro e9 u9 w9 ⟨rfl,rfl,rfl⟩;have q:=Yi.out;exact ⟨.tuple #[.slice none 0 0,.int .i64 0],by simp[results,Tryz.results55,go_sem,q],KU.out⟩
    ·have hpl:0<x.ps.length:=List.length_pos_iff.2 hps;have d6:((x.ps.length:Int)==0)=false:=by simp;omega
     have hfr:=Mb.out;rw[if_neg hps] at hfr;have hgb:=ZQ.out;rw[hfr] at hgb;have hRr:=KG.out;rw[hgb] at hRr;have HRR:=ah hRr;have hok:=Un.out hps;have hsm:=Uo.out hps;have hsb:sB=x.s:=BK.out hps;subst hsb;have DN:=ah hok;have vE:=ah hsm;clear hfr hgb hRr hps hok hsm;go_upto_region 15 with (fail)
     have c5:=zu.out.cell 0;have f5:=zu.out.frozen 0;have d0:(w5.alloc (.cells #[.bool x.s,.bool x.e,.slice Ap x.ps.length cp] 145)).cell? ⟨w5.heap.size,0,none⟩=some (.bool x.s):=KV.out.cell 0;have d1:(w5.alloc (.cells #[.bool x.s,.bool x.e,.slice Ap x.ps.length cp] 145)).cell? ⟨w5.heap.size,1,none⟩=some (.bool x.e):=KV.out.cell 1;have d2:(w5.alloc (.cells #[.bool x.s,.bool x.e,.slice Ap x.ps.length cp] 145)).cell? ⟨w5.heap.size,2,none⟩=some (.slice Ap x.ps.length cp):=KV.out.cell 2;simp only[List.getElem?_toArray,List.getElem?_cons_zero] at c5;have Uq:=ah ((Below.refl w5.heap.size w5).alloc (aN) (.cells #[.bool x.s,.bool x.e,.slice Ap x.ps.length cp] 145));have LJ:=ah (World.size_alloc w5 (.cells #[.bool x.s,.bool x.e,.slice Ap x.ps.length cp] 145));generalize w5.alloc (.cells #[.bool x.s,.bool x.e,.slice Ap x.ps.length cp] 145)=w6 at*;go_wp2_with fail;have L8:=Qr.out;have tq:=Up.out;obtain ⟨vl6,Ur,Yn⟩:=tq;have acg:jd w6 w6.heap.size Ap x.ps.length cp vl6 x.ps:=⟨fC Ur,rfl,fun i q hi=>let ⟨A,cq,e,ho⟩:=Yn i q hi;⟨A,cq,e,fC ho⟩⟩;have hxs:=DN.out.ps;have zh:∀q∈x.ps,q.length≤1099511627776:=fun q hq=>by
      have:=iI hq;have:=hxs.sum;omega
     have hxh:=hxs.hi;have hnx:∀W,Below w6.heap.size w6 W→Calls Tryz.prog 87 #[.pointer (some ⟨g,0,none⟩)] W fun e w'=>e= .returned (.int .i64 (bZ s3:Nat))∧Below w6.heap.size w6 w':=fun W hW=>
      (sF (L8.below hW) KT (by omega)).mono fun e w' hh=>⟨hh.1,by obtain ⟨q,rfl⟩:=hh.2;exact hW.drewN q⟩
     have hsz:∀W,Below w6.heap.size w6 W→Calls Tryz.prog 88 #[.agg #[.bool x.s,.bool x.e,.slice Ap x.ps.length cp]] W fun e w'=>e= .returned (.int .i64 (aC x:Nat))∧Below w6.heap.size w6 w':=fun W hW=>
      (ru x.s x.e Ap x.ps.length cp vl6 x.ps W ((acg.below hW).more hW.size) (by omega) zh).mono fun e w' hh=>⟨hh.1,hW.trans (hh.2.mono hW.size)⟩
     have ag2:=Ur;have hl5:w5.heap.size<w6.heap.size:=by have:=LJ.out;omega
     have hS:∀W,Below w6.heap.size w6 W→(W.cell? ⟨w5.heap.size,0,none⟩=some (.bool x.s)∧W.cell? ⟨w5.heap.size,1,none⟩=some (.bool x.e)∧W.cell? ⟨w5.heap.size,2,none⟩=some (.slice Ap x.ps.length cp)):=fun W hW=>⟨(hW.cell (p:=⟨w5.heap.size,0,none⟩) hl5).trans d0,(hW.cell (p:=⟨w5.heap.size,1,none⟩) hl5).trans d1,(hW.cell (p:=⟨w5.heap.size,2,none⟩) hl5).trans d2⟩
     have El:=ah hnx;have FB:=ah hsz;have HS:=ah hS;have Us:=ah Ur;have Ut:=ah Yn;have HXS:=ah hxs;clear hnx hsz hS Ur Yn acg zh hxs L8 ag2;go_cut [10] from 44 to 51 (fun s10 wx=>∃p,s10= .pointer (some ⟨p,0,none⟩)∧au wx p 152 #[.int .i64 (bZ s3:Nat),.bool false,.bool false,.bool false,.int .i64 0,.bool x.s,.bool x.e,.slice Ap x.ps.length cp,.int .i64 (aC x:Nat),.bool false,.slice none 0 0,.int .i64 0]∧Below w6.heap.size w6 wx∧w6.heap.size≤p)
     case first=>
      have hb0:=Below.refl w6.heap.size w6
      go_region_held3 (fun W=>W.cell? ⟨w5.heap.size,0,none⟩=some (.bool x.s)∧W.cell? ⟨w5.heap.size,1,none⟩=some (.bool x.e)∧W.cell? ⟨w5.heap.size,2,none⟩=some (.slice Ap x.ps.length cp))
       (first|go_keep|exact HS.out _ (by assumption)|exact HS.out _ (Below.drew (by assumption))|exact HS.out _ (Below.drewN (by assumption) _))
       (first
        |(go_at_call 87;refine (El.out _ (by first|assumption|exact Below.drew (by assumption)|exact Below.drewN (by assumption) _)).mono ?_;rintro e7 w7 ⟨rfl,oZ⟩)
        |(go_at_call 88;refine (FB.out _ (by first|assumption|exact Below.drew (by assumption)|exact Below.drewN (by assumption) _)).mono ?_;rintro e7 w7 ⟨rfl,oZ⟩)
        |fail)
      all_goals
       go_wp2;go_meet;exact ⟨_,rfl,au.new _ _ _,oZ.alloc oZ.size _,oZ.size⟩
     case rest=>
     obtain ⟨p,rfl,hbp,hbx,anP⟩:=hcut;have hz3:=JA.out.size;have anQ:=LJ.out;have hzc:=hbx.size;have hbW:Below w3.heap.size w3 wc:=JA.out.trans ((Uq.out.mono hz3).trans (hbx.mono (by omega)));have Ud:=Qr.out.below hbx;have Yo:bM wc w3.heap.size (.slice Ap x.ps.length cp) x.ps:=bM.Cb ⟨vl6,Us.out,Ut.out⟩ hbx;have hxa:=Yl.out;obtain ⟨xa1,xa2,xa3,xa4⟩:=hxa;have Yp:au wc p 152 (Hg x (.slice Ap x.ps.length cp) (.slice none 0 0)):=by
      have e:Hg x (.slice Ap x.ps.length cp) (.slice none 0 0)= #[.int .i64 (bZ s3:Nat),.bool false,.bool false,.bool false,.int .i64 0,.bool x.s,.bool x.e,.slice Ap x.ps.length cp,.int .i64 (aC x:Nat),.bool false,.slice none 0 0,.int .i64 0]:=by
       unfold Hg;rw[xa1,xa3,xa4];rfl
      rw[e];exact hbp
     have hkW:Kept (fun k _=>D k) w2 wc:=nJ.out.step ((Kept.of_below hbW).gH fun k o ho hm=>by have:=lt_of_heap ho;omega) HD3.out;have beW:=zu.out.below hbx zu.out.lt;have xh:=Ud.blk.cell 12;have e12:=Ud.blk.frozen 12;simp[eU] at xh;have ag7:=Ud.blk.lt;have R6:=ah Ud;have Yq:=ah Yo;have Yr:=ah Yp;have Ht:=ah hbW;have Yt:=ah beW;have QB:=ah (And.intro xa1 (And.intro xa2 (And.intro xa3 xa4)));have QC:=ah (fun (w8:World) (A8:Option Addr) (c8:Nat) hq8 SL hf8=>yh.out.grow (W2:=wc) (w5:=w8) (x:=x) (Ap:=Ap) (A5:=A8) (cp:=cp) (c5:=c8) (p:=p) (base:=w3.heap.size) hbW Yp (by omega) Yo (aN) xa2 (fun q hq=>HXS.out.pos q hq) hq8 SL hf8);obtain ⟨j1,hj1,hq0,hq1,hq2⟩:=Qz;clear Ud Yo Yp hbW beW xa1 xa2 xa3 xa4 hbp hkW;go_wp2_with (at_builtin;refine zm rfl (.tmp 56) (.tmp 58) 141 rfl j1 (.pointer none) 8 Yg hj1 hq0 hq1 hq2 rfl rfl (R6.out.uz.alloc (.cells #[.pointer (some ⟨p,0,none⟩)] 138)) ⟨wc.heap.size,0,none⟩ 1 (.pointer (some ⟨p,0,none⟩)) rfl ?c1 rfl ?c2 ?c3 ?c4 ?_)
     case c1=>exact World.news_of_block (heap_alloc_new wc _) 0 _ rfl
     case c2=>unfold maxLen;omega
     case c3=>omega
     case c4=>omega
     intro v8 w8 QD KW hq8;obtain ⟨A8,c8,rfl,hs8⟩:=QD.sl;obtain ⟨D9,F9,vl9,hA9,hD9,hF9,SK,ZR⟩:=QC.out w8 A8 c8 QD KW (fun k hk=>(hq8 k hk).imp id (fun h=>by rw[World.size_alloc];exact h));have Ov:=((R6.out.blk.alloc (.cells #[.pointer (some ⟨p,0,none⟩)] 138)).grown KW (fun e=>R6.out.gne.2 e.symm));have ach:=Ov.cell 12;have ag8:=Ov.frozen 12;simp[eU] at ach;have ag9:g<(wc.alloc (.cells #[.pointer (some ⟨p,0,none⟩)] 138)).heap.size:=Nat.lt_of_lt_of_le R6.out.blk.lt (by simp);have IG:=ah hA9;have Yu:=ah hD9;have HF9:=ah hF9;have Tv:=ah SK;have IY:=ah ZR;have TT:au (w8.setCell ⟨g,12,none⟩ (.slice A8 (s3.out.length+1) c8)) w.heap.size 53 #[.int .i64 0]:=yc.out.kept SK (fun hd=>by
      rcases HD3.out _ hd with e|e
      ·exact hDn e
      ·omega)
     have QE:=ah TT;clear hA9 hD9 hF9 SK ZR QD KW hq8 hs8 Ov TT;go_upto_region 19 with (fail)
     generalize w8.setCell ⟨g,12,none⟩ (.slice A8 (s3.out.length+1) c8)=w9 at*;clear ach ag8 xh e12 d0 d1 d2 c5 f5 ag9 ag7;have FU:=IG.out.blk.cell 10;have e10:=IG.out.blk.frozen 10;have p8:=IY.out.blk.cell 8;simp[eU] at FU;simp[Hg] at p8;have hsm:=vE.out;have Lu:=HB3.out.held;have Oq:=HB3.out.dX;have hby:=HB3.out.bytes;have anU:=jP DN.out;have hts:s3.taken+aC x≤1048576:=by omega
     have Qu:=(IG.out.oI 10 (.int .i64 ((s3.taken:Int)+(aC x:Nat))) (st':= {s3 with out:=s3.out++ [x],taken:=s3.taken+aC x}) (by simp[eU]) rfl rfl).drew;have Qt:=(IY.out.far IG.out.gd (fun e=>IG.out.blk.off IY.out.blk (by decide) e) 10 (.int .i64 ((s3.taken:Int)+(aC x:Nat)))).drew;have hk10:=(Tv.out.step ((Kept.refl (fun k _=>D9 k) w9).setCell (p:=⟨g,10,none⟩) (fun _ _=>IG.out.gd) (.int .i64 ((s3.taken:Int)+(aC x:Nat)))) Yu.out).drew;have VP:=(QE.out.far (p:=⟨g,10,none⟩) (fun e=>QE.out.off IG.out.blk (by decide) e) (.int .i64 ((s3.taken:Int)+(aC x:Nat)))).drew;have pI:=ah Qu;have KX:=ah Qt;have Uu:=ah hk10;have EA:=ah VP;clear hsm Lu Qu Qt hk10 VP
     go_region
     generalize (w9.setCell ⟨g,10,none⟩ (.int .i64 ((s3.taken:Int)+(aC x:Nat)))).drew=RN at*;clear FU e10 p8;have y13:=pI.out.blk.cell 13;have Ej:=pI.out.blk.cell 14;have e13:=pI.out.blk.frozen 13;have e14:=pI.out.blk.frozen 14;have p8:=KX.out.blk.cell 8;simp[eU] at y13 Ej;simp[Hg] at p8;go_wp2_with fail;go_cut [] from 73 to 92 (fun wx=>wx=((RN.setCell ⟨g,13,none⟩ (.int .i64 ((s3.dX:Int)+1))).setCell ⟨g,14,none⟩ (.int .i64 ((s3.bytes:Int)+(aC x:Nat)))).drew)
     case first=>
      clear pI KX Uu EA IG Yu HF9 Tv IY QE QC QB Yt Ht Yr Yq R6 hbx JA TD zu KV Qr ve Up HRR DN vE Uq LJ El FB HS Us Ut HXS HX Yl Un Uo Ym BK Mb Um ZQ yh HI3 HB3 Sc nJ HD3 KD Yh KG yc HKK sW ZG HR HF Ez HI1 HT JC HB1 tV HH qi;generalize aC x=sz at*;refine wp_region_noPanic ?_;refine bJ (fun w'=>w'.cell? ⟨g,13,none⟩=some (.int .i64 (s3.dX:Nat))∧w'.cell? ⟨g,14,none⟩=some (.int .i64 (s3.bytes:Nat))∧w'.cell? ⟨p,8,none⟩=some (.int .i64 (sz:Nat))) [18,21] (by kernel_rfl) ?_;have hHeld:RN.drew.cell? ⟨g,13,none⟩=some (.int .i64 (s3.dX:Nat))∧RN.drew.cell? ⟨g,14,none⟩=some (.int .i64 (s3.bytes:Nat))∧RN.drew.cell? ⟨p,8,none⟩=some (.int .i64 (sz:Nat)):=⟨y13,Ej,p8⟩;refine aT 0 rfl hHeld ?_
      try simp only[Act.put,aD,aF,ay,aA,aB]
      refine aT 1 rfl hHeld ?_
      try simp only[Act.put,aD,aF,aG,ay,aA,aB]
      refine aT 2 rfl hHeld ?_
      try simp only[Act.put,aD,aF,aG,ay,aA,aB]
      refine aT 3 rfl hHeld ?_
      try simp only[Act.put,aD,aF,aG,ay,aA,aB]
      refine aT 4 rfl hHeld ?_
      try simp only[Act.put,aD,aF,aG,ay,aA,aB]
      refine iw [18,21] 5 ?_ rfl (Or.inl ⟨by rfl,?_⟩) hHeld ?_;rotate_left
      ·intro w' hSw;obtain ⟨hS1,hS2,gK⟩:=hSw;go_simp
       try with_reducible rfl
      try simp only[Act.put,aD,aF,aG,ay,aA,aB]
      refine aT 6 rfl hHeld ?_
      try simp only[Act.put,aD,aF,aG,ay,aA,aB]
      refine aT 7 rfl hHeld ?_
      try simp only[Act.put,aD,aF,aG,ay,aA,aB]
      refine aT 8 rfl hHeld ?_
      try simp only[Act.put,aD,aF,aG,ay,aA,aB]
      refine aT 9 rfl hHeld ?_
      try simp only[Act.put,aD,aF,aG,ay,aA,aB]
      refine iw [18,21] 10 ?_ rfl (Or.inl ⟨by rfl,?_⟩) hHeld ?_;rotate_left
      ·intro w' hSw;obtain ⟨hS1,hS2,gK⟩:=hSw;go_simp
       try with_reducible rfl
      try simp only[Act.put,aD,aF,aG,ay,aA,aB]
      refine aT 11 rfl hHeld ?_
      try simp only[Act.put,aD,aF,aG,ay,aA,aB]
      refine aT 12 rfl hHeld ?_
      try simp only[Act.put,aD,aF,aG,ay,aA,aB]
      refine aT 13 rfl hHeld ?_
      try simp only[Act.put,aD,aF,aG,ay,aA,aB]
      refine iw [18,21] 14 ?_ rfl (Or.inl ⟨by rfl,?_⟩) hHeld ?_;rotate_left
      ·intro w' hSw;obtain ⟨hS1,hS2,gK⟩:=hSw;go_simp
       try with_reducible rfl
      try simp only[Act.put,aD,aF,aG,ay,aA,aB]
      refine aT 15 rfl hHeld ?_
      try simp only[Act.put,aD,aF,aG,ay,aA,aB]
      refine aT 16 rfl hHeld ?_
      try simp only[Act.put,aD,aF,aG,ay,aA,aB]
      refine aT 17 rfl hHeld ?_
      try simp only[Act.put,aD,aF,aG,ay,aA,aB]
      refine bW (i:=18) rfl (by kernel_rfl) (by kernel_rfl) (by rfl) (fun K hK=> ?_);go_simp;refine hK _ _ ?_;clear hK K
      try simp only[Act.put,aD,aF,aG,ay,aA,aB]
      refine sU 19 rfl ?_
      try simp only[Act.put,aD,aF,aG,ay,aA,aB]
      refine sU 20 rfl ?_
      try simp only[Act.put,aD,aF,aG,ay,aA,aB]
      refine bW (i:=21) rfl (by kernel_rfl) (by kernel_rfl) (by rfl) (fun K hK=> ?_);go_simp;refine hK _ _ ?_;clear hK K
      try simp only[Act.put,aD,aF,aG,ay,aA,aB]
      refine bI (by kernel_rfl) ?_ _;refine NoPanic.normal ?_;rw[IntWalk.i64_in ((s3.dX:Int)+1) (by omega),IntWalk.i64_in ((s3.bytes:Int)+(sz:Nat)) (by omega)];go_wp2_with fail;go_meet;rfl
     case rest=>
     subst hcut;have aci:=((pI.out.oI 13 (.int .i64 ((s3.dX:Int)+1)) (st':= {s3 with out:=s3.out++ [x],taken:=s3.taken+aC x,dX:=s3.dX+1}) (by simp[eU]) rfl rfl).oI 14 (.int .i64 ((s3.bytes:Int)+(aC x:Nat))) (st':=eD s3 x) (by simp[eU,eD]) rfl rfl).drew;have acj:=((KX.out.far pI.out.gd (fun e=>pI.out.blk.off KX.out.blk (by decide) e) 13 (.int .i64 ((s3.dX:Int)+1))).far pI.out.gd (fun e=>pI.out.blk.off KX.out.blk (by decide) e) 14 (.int .i64 ((s3.bytes:Int)+(aC x:Nat)))).drew;have acm:=(Uu.out.step (((Kept.refl (fun k _=>D9 k) RN).setCell (p:=⟨g,13,none⟩) (fun _ _=>pI.out.gd) (.int .i64 ((s3.dX:Int)+1))).setCell (p:=⟨g,14,none⟩) (fun _ _=>pI.out.gd) (.int .i64 ((s3.bytes:Int)+(aC x:Nat)))) Yu.out).drew;have VQ:=((EA.out.far (p:=⟨g,13,none⟩) (fun e=>EA.out.off pI.out.blk (by decide) e) (.int .i64 ((s3.dX:Int)+1))).far (p:=⟨g,14,none⟩) (fun e=>EA.out.off pI.out.blk (by decide) e) (.int .i64 ((s3.bytes:Int)+(aC x:Nat)))).drew;have Ga:=ah aci;have Dy:=ah acj;have Uv:=ah acm;have Mc:=ah VQ;clear aci acj acm VQ y13 Ej e13 e14 p8 hts;generalize (((RN.setCell ⟨g,13,none⟩ (.int .i64 ((s3.dX:Int)+1))).setCell ⟨g,14,none⟩ (.int .i64 ((s3.bytes:Int)+(aC x:Nat)))).drew)=Ce at*;go_wp2_with fail;have aha:=vE.out;have Lu:=HB3.out.held;have IE:dx (eD s3 x)≤1048576:=Lu;have hol:(eD s3 x).out.length≤512:=by
      show (s3.out++ [x]).length≤512
      rw[List.length_append];simp;omega
     have hf1:(eD s3 x).first<1024:=KT
     obtain ⟨b,hb⟩:∃b,b=iV c (eD s3 x):=⟨_,rfl⟩
     have QF:x.sn=bZ s3:=QB.out.2.2.2;have hfi:=jT Ga.out.drew IE hol hf1 x.sn false false false 0 x.s x.e Ap x.ps.length cp vl9 x.ps (fun w' hk=>Dy.out.drew.KO Ga.out.drew.lt hk) (mh DN.out) (by omega) b;rw[QF] at hfi;have Ns:Calls Tryz.prog 89 #[.pointer (some ⟨g,0,none⟩),.agg #[.int .i64 (bZ s3:Nat),.bool false,.bool false,.bool false,.int .i64 0,.bool x.s,.bool x.e,.slice Ap x.ps.length cp],.bool b] Ce.drew (FW Ce.drew D9 F9 g c (bK c (eD s3 x) b).1 (oD (bZ s3) (bK c (eD s3 x) b).2 false false 0 x.s x.e x.ps)):=hfi;have IV:=ah Ns;have anV:w.heap.size≠g:=fun e=>Mc.out.off Ga.out.blk (by decide) e
     have hzz:=nJ.out.size;have ahb:¬D9 w.heap.size:=fun hd=>by
      rcases Yu.out _ hd with e|e
      ·rcases HD3.out _ e with e|e
       ·exact hDn e
       ·omega
      ·omega
     have y0:=Ga.out.blk.cell 0;have y1:=Ga.out.blk.cell 1;have y13:=Ga.out.blk.cell 13;have Ej:=Ga.out.blk.cell 14;simp[eU,eD] at y0 y1 y13 Ej;obtain ⟨p0,p7,p8,p9,p10,p11⟩:=Dy.out.cells;obtain ⟨p1,p2,p3,p4,p5,p6⟩:=(show Ce.cell? ⟨p,1,none⟩=some (.bool false)∧Ce.cell? ⟨p,2,none⟩=some (.bool false)∧Ce.cell? ⟨p,3,none⟩=some (.bool false)∧Ce.cell? ⟨p,4,none⟩=some (.int .i64 0)∧Ce.cell? ⟨p,5,none⟩=some (.bool x.s)∧Ce.cell? ⟨p,6,none⟩=some (.bool x.e) from
      ⟨Dy.out.blk.cell 1,Dy.out.blk.cell 2,Dy.out.blk.cell 3,Dy.out.blk.cell 4,Dy.out.blk.cell 5,Dy.out.blk.cell 6⟩)
     rw[QF] at p0;have HB:=ah hb;have VL:=ah IE;clear hfi Ns IE hol hf1 QF hb aha Lu p8 p9 p10 p11;go_cut [6] from 93 to 136 (fun s6 wx=>∃W',wx=W'.setCell ⟨w.heap.size,0,none⟩ (.int .i64 0)∧W'.ownsRow Ce.heap.size 5 1 s6 (oD (bZ s3) (bK c (eD s3 x) b).2 false false 0 x.s x.e x.ps).length (bQ (oD (bZ s3) (bK c (eD s3 x) b).2 false false 0 x.s x.e x.ps))∧mg Ce.drew D9 F9 g c (bK c (eD s3 x) b).1 W')
     case first=>
      have hbb:=HB.out;unfold iV at hbb;have e1:((eD s3 x).dX:Int)=(s3.dX:Int)+1:=by simp[eD]
      have e2:((eD s3 x).bytes:Int)=(s3.bytes:Int)+(aC x:Nat):=by simp[eD]
      rw[e1,e2] at hbb;clear e1 e2;have JC:=ah Mc.out;have Ol:=ah ahb;clear Ga Dy Uv Mc pI KX Uu EA IG Yu HF9 Tv IY QE QC QB Yt Ht Yr Yq R6 hbx JA TD zu KV Qr ve Up HRR DN vE Uq LJ El FB HS Us Ut HXS HX Yl Un Uo Ym BK Mb Um ZQ yh HI3 HB3 Sc nJ HD3 KD Yh KG yc HKK sW ZG HR HF Ez HI1 HT HB1 tV HH qi HB VL;have hHeld:=(show Ce.drew.cell? ⟨g,0,none⟩=some (.int .i64 c.Ls)∧Ce.drew.cell? ⟨g,1,none⟩=some (.int .i64 c.byte)∧Ce.drew.cell? ⟨g,13,none⟩=some (.int .i64 ((s3.dX:Int)+1))∧Ce.drew.cell? ⟨g,14,none⟩=some (.int .i64 ((s3.bytes:Int)+(aC x:Nat)))∧Ce.drew.cell? ⟨p,0,none⟩=some (.int .i64 (bZ s3:Nat))∧Ce.drew.cell? ⟨p,1,none⟩=some (.bool false)∧Ce.drew.cell? ⟨p,2,none⟩=some (.bool false)∧Ce.drew.cell? ⟨p,3,none⟩=some (.bool false)∧Ce.drew.cell? ⟨p,4,none⟩=some (.int .i64 0)∧Ce.drew.cell? ⟨p,5,none⟩=some (.bool x.s)∧Ce.drew.cell? ⟨p,6,none⟩=some (.bool x.e)∧Ce.drew.cell? ⟨p,7,none⟩=some (.slice Ap x.ps.length cp) from ⟨y0,y1,y13,Ej,p0,p1,p2,p3,p4,p5,p6,p7⟩);clear y0 y1 y13 Ej p0 p1 p2 p3 p4 p5 p6 p7;obtain ⟨bA,d1⟩:∃q,decide (0<c.Ls)=q:=⟨_,rfl⟩
      obtain ⟨bE,d2⟩:∃q,decide (c.Ls≤(s3.dX:Int)+1)=q:=⟨_,rfl⟩
      obtain ⟨bB,d3⟩:∃q,decide (0<c.byte)=q:=⟨_,rfl⟩
      obtain ⟨bC,d4⟩:∃q,decide (c.byte≤(s3.bytes:Int)+(aC x:Nat))=q:=⟨_,rfl⟩
      rw[d1,d2,d3,d4] at hbb;obtain ⟨pq,hpq⟩:∃q,(bA&&bE)=q:=⟨_,rfl⟩
      obtain ⟨q2,hq2⟩:∃q,(bB&&bC)=q:=⟨_,rfl⟩
      rw[hpq,hq2] at hbb;have Zl:=ah hpq;have HQ2:=ah hq2;have PT:=ah hbb;clear hpq hq2 hbb;refine wp_region_noPanic ?_;refine bJ (fun w'=>w'.cell? ⟨g,0,none⟩=some (.int .i64 c.Ls)∧w'.cell? ⟨g,1,none⟩=some (.int .i64 c.byte)∧w'.cell? ⟨g,13,none⟩=some (.int .i64 ((s3.dX:Int)+1))∧w'.cell? ⟨g,14,none⟩=some (.int .i64 ((s3.bytes:Int)+(aC x:Nat)))∧w'.cell? ⟨p,0,none⟩=some (.int .i64 (bZ s3:Nat))∧w'.cell? ⟨p,1,none⟩=some (.bool false)∧w'.cell? ⟨p,2,none⟩=some (.bool false)∧w'.cell? ⟨p,3,none⟩=some (.bool false)∧w'.cell? ⟨p,4,none⟩=some (.int .i64 0)∧w'.cell? ⟨p,5,none⟩=some (.bool x.s)∧w'.cell? ⟨p,6,none⟩=some (.bool x.e)∧w'.cell? ⟨p,7,none⟩=some (.slice Ap x.ps.length cp)) [43] (by kernel_rfl) ?_;refine aT 0 rfl hHeld ?_
      try simp only[Act.put,aD,aF,ay,aA,aB]
      refine aT 1 rfl hHeld ?_
      try simp only[Act.put,aD,aF,aG,ay,aA,aB]
      refine aT 2 rfl hHeld ?_
      try simp only[Act.put,aD,aF,aG,ay,aA,aB]
      refine aT 3 rfl hHeld ?_
      try simp only[Act.put,aD,aF,aG,ay,aA,aB]
      refine iw [43] 4 ?_ rfl (Or.inl ⟨by rfl,?_⟩) hHeld ?_;rotate_left
      ·intro w' hSw;obtain ⟨hS1,hS2,gK,ku,hS5,oW,tN,uY,uZ,iY,Nt,Nu⟩:=hSw;go_simp
       try with_reducible rfl
      try simp only[Act.put,aD,aF,aG,ay,aA,aB]
      refine aT 5 rfl hHeld ?_
      try simp only[Act.put,aD,aF,aG,ay,aA,aB]
      refine aT 6 rfl hHeld ?_
      try simp only[Act.put,aD,aF,aG,ay,aA,aB]
      refine aT 7 rfl hHeld ?_
      try simp only[Act.put,aD,aF,aG,ay,aA,aB]
      refine aT 8 rfl hHeld ?_
      try simp only[Act.put,aD,aF,aG,ay,aA,aB]
      refine iw [43,42,23,22,11,10] 9 ?_ rfl (Or.inl ⟨by rfl,?_⟩) hHeld ?_;rotate_left
      ·intro w' hSw;obtain ⟨hS1,hS2,gK,ku,hS5,oW,tN,uY,uZ,iY,Nt,Nu⟩:=hSw;go_simp
       try with_reducible rfl
      try simp only[Act.put,aD,aF,aG,ay,aA,aB]
      refine yJ 10 (.bool bA) rfl (Or.inl ⟨by rfl,?_⟩) hHeld ?_
      ·intro w' hSw;go_simp
       try with_reducible rfl
      try simp only[Act.put,aD,aF,aG,ay,aA,aB]
      refine aT 11 rfl hHeld ?_
      try simp only[Act.put,aD,aF,aG,ay,aA,aB]
      refine yJ 12 (cond bA (.pointer (some ⟨g,0,none⟩)) undef) rfl (YieldsIf.guard bA (fun hb=> ?_) (fun hb=> ?_)) hHeld ?_
      ·subst hb;refine Or.inl ⟨by rfl,?_⟩;intro w' hSw
       try simp only[cond_true]
       go_simp
       try with_reducible rfl
      ·subst hb;rfl
      try simp only[Act.put,aD,aF,aG,ay,aA,aB]
      refine yJ 13 (cond bA (.pointer (some ⟨g,0,none⟩)) undef) rfl (YieldsIf.guard bA (fun hb=> ?_) (fun hb=> ?_)) hHeld ?_
      ·subst hb;refine Or.inl ⟨by rfl,?_⟩;intro w' hSw
       try simp only[cond_true]
       go_simp
       try with_reducible rfl
      ·subst hb;rfl
      try simp only[Act.put,aD,aF,aG,ay,aA,aB]
      refine yJ 14 (cond bA (.pointer (some ⟨g,13,none⟩)) undef) rfl (YieldsIf.guard bA (fun hb=> ?_) (fun hb=> ?_)) hHeld ?_
      ·subst hb;refine Or.inl ⟨by rfl,?_⟩;intro w' hSw
       try simp only[cond_true]
       go_simp
       try with_reducible rfl
      ·subst hb;rfl
      try simp only[Act.put,aD,aF,aG,ay,aA,aB]
      refine iw [43,42,23,22,21] 15 (cond bA (.int .i64 ((s3.dX:Int)+1)) undef) rfl (YieldsIf.guard bA (fun hb=> ?_) (fun hb=> ?_)) hHeld ?_
      ·subst hb;refine Or.inl ⟨by rfl,?_⟩;intro w' hSw;obtain ⟨hS1,hS2,gK,ku,hS5,oW,tN,uY,uZ,iY,Nt,Nu⟩:=hSw
       try simp only[cond_true]
       go_simp
       try with_reducible rfl
      ·subst hb;rfl
      try simp only[Act.put,aD,aF,aG,ay,aA,aB]
      refine yJ 16 (cond bA (.pointer (some ⟨g,0,none⟩)) undef) rfl (YieldsIf.guard bA (fun hb=> ?_) (fun hb=> ?_)) hHeld ?_
      ·subst hb;refine Or.inl ⟨by rfl,?_⟩;intro w' hSw
       try simp only[cond_true]
       go_simp
       try with_reducible rfl
      ·subst hb;rfl
      try simp only[Act.put,aD,aF,aG,ay,aA,aB]
      refine yJ 17 (cond bA (.pointer (some ⟨g,0,none⟩)) undef) rfl (YieldsIf.guard bA (fun hb=> ?_) (fun hb=> ?_)) hHeld ?_
      ·subst hb;refine Or.inl ⟨by rfl,?_⟩;intro w' hSw
       try simp only[cond_true]
       go_simp
       try with_reducible rfl
      ·subst hb;rfl
      try simp only[Act.put,aD,aF,aG,ay,aA,aB]
      refine yJ 18 (cond bA (.pointer (some ⟨g,0,none⟩)) undef) rfl (YieldsIf.guard bA (fun hb=> ?_) (fun hb=> ?_)) hHeld ?_
      ·subst hb;refine Or.inl ⟨by rfl,?_⟩;intro w' hSw
       try simp only[cond_true]
       go_simp
       try with_reducible rfl
      ·subst hb;rfl
      try simp only[Act.put,aD,aF,aG,ay,aA,aB]
      refine yJ 19 (cond bA (.pointer (some ⟨g,0,none⟩)) undef) rfl (YieldsIf.guard bA (fun hb=> ?_) (fun hb=> ?_)) hHeld ?_
      ·subst hb;refine Or.inl ⟨by rfl,?_⟩;intro w' hSw
       try simp only[cond_true]
       go_simp
       try with_reducible rfl
      ·subst hb;rfl
      try simp only[Act.put,aD,aF,aG,ay,aA,aB]
      refine iw [43,42,23,22,21] 20 (cond bA (.int .i64 c.Ls) undef) rfl (YieldsIf.guard bA (fun hb=> ?_) (fun hb=> ?_)) hHeld ?_
      ·subst hb;refine Or.inl ⟨by rfl,?_⟩;intro w' hSw;obtain ⟨hS1,hS2,gK,ku,hS5,oW,tN,uY,uZ,iY,Nt,Nu⟩:=hSw
       try simp only[cond_true]
       go_simp
       try with_reducible rfl
      ·subst hb;rfl
      try simp only[Act.put,aD,aF,aG,ay,aA,aB]
      refine yJ 21 (cond bA (.bool bE) undef) rfl (YieldsIf.guard bA (fun hb=> ?_) (fun hb=> ?_)) hHeld ?_
      ·subst hb;refine Or.inl ⟨by rfl,?_⟩;intro w' hSw
       try simp only[cond_true]
       go_simp
       try with_reducible rfl
      ·subst hb;rfl
      try simp only[Act.put,aD,aF,aG,ay,aA,aB]
      refine yJ 22 (.bool pq) rfl (Or.inl ⟨by rfl,?_⟩) hHeld ?_
      ·intro w' hSw;have hq:=Zl.out;cases bA with
       |false=>
        have hq':pq=false:=by rw[←hq];rfl
        subst hq';clear hq;simp only[cond_false];go_simp
       |true=>
        have hq':bE=pq:=by rw[←hq];rfl
        subst hq';clear hq;simp only[cond_true];go_simp
      try simp only[Act.put,aD,aF,aG,ay,aA,aB]
      refine aT 23 rfl hHeld ?_
      try simp only[Act.put,aD,aF,aG,ay,aA,aB]
      refine yJ 24 (cond (!pq) (.pointer (some ⟨g,0,none⟩)) undef) rfl (YieldsIf.guard (!pq) (fun hb=> ?_) (fun hb=> ?_)) hHeld ?_
      ·have hb1:pq=false:=by simpa using hb
       subst hb1;refine Or.inl ⟨by rfl,?_⟩;intro w' hSw
       try simp only[Bool.not_false,cond_true]
       go_simp
       try with_reducible rfl
      ·have hb1:pq=true:=by simpa using hb
       subst hb1;rfl
      try simp only[Act.put,aD,aF,aG,ay,aA,aB]
      refine yJ 25 (cond (!pq) (.pointer (some ⟨g,0,none⟩)) undef) rfl (YieldsIf.guard (!pq) (fun hb=> ?_) (fun hb=> ?_)) hHeld ?_
      ·have hb1:pq=false:=by simpa using hb
       subst hb1;refine Or.inl ⟨by rfl,?_⟩;intro w' hSw
       try simp only[Bool.not_false,cond_true]
       go_simp
       try with_reducible rfl
      ·have hb1:pq=true:=by simpa using hb
       subst hb1;rfl
      try simp only[Act.put,aD,aF,aG,ay,aA,aB]
      refine yJ 26 (cond (!pq) (.pointer (some ⟨g,0,none⟩)) undef) rfl (YieldsIf.guard (!pq) (fun hb=> ?_) (fun hb=> ?_)) hHeld ?_
      ·have hb1:pq=false:=by simpa using hb
       subst hb1;refine Or.inl ⟨by rfl,?_⟩;intro w' hSw
       try simp only[Bool.not_false,cond_true]
       go_simp
       try with_reducible rfl
      ·have hb1:pq=true:=by simpa using hb
       subst hb1;rfl
      try simp only[Act.put,aD,aF,aG,ay,aA,aB]
      refine yJ 27 (cond (!pq) (.pointer (some ⟨g,1,none⟩)) undef) rfl (YieldsIf.guard (!pq) (fun hb=> ?_) (fun hb=> ?_)) hHeld ?_
      ·have hb1:pq=false:=by simpa using hb
       subst hb1;refine Or.inl ⟨by rfl,?_⟩;intro w' hSw
       try simp only[Bool.not_false,cond_true]
       go_simp
       try with_reducible rfl
      ·have hb1:pq=true:=by simpa using hb
       subst hb1;rfl
      try simp only[Act.put,aD,aF,aG,ay,aA,aB]
      refine iw [43,42,41,30,29] 28 (cond (!pq) (.int .i64 c.byte) undef) rfl (YieldsIf.guard (!pq) (fun hb=> ?_) (fun hb=> ?_)) hHeld ?_
      ·have hb1:pq=false:=by simpa using hb
       subst hb1;refine Or.inl ⟨by rfl,?_⟩;intro w' hSw;obtain ⟨hS1,hS2,gK,ku,hS5,oW,tN,uY,uZ,iY,Nt,Nu⟩:=hSw
       try simp only[Bool.not_false,cond_true]
       go_simp
       try with_reducible rfl
      ·have hb1:pq=true:=by simpa using hb
       subst hb1;rfl
      try simp only[Act.put,aD,aF,aG,ay,aA,aB]
      refine yJ 29 (cond (!pq) (.bool bB) undef) rfl (YieldsIf.guard (!pq) (fun hb=> ?_) (fun hb=> ?_)) hHeld ?_
      ·have hb1:pq=false:=by simpa using hb
       subst hb1;refine Or.inl ⟨by rfl,?_⟩;intro w' hSw
       try simp only[Bool.not_false,cond_true]
       go_simp
       try with_reducible rfl
      ·have hb1:pq=true:=by simpa using hb
       subst hb1;rfl
      try simp only[Act.put,aD,aF,aG,ay,aA,aB]
      refine yJ 30 (cond (!pq) (.bool bB) undef) rfl (YieldsIf.guard (!pq) (fun hb=> ?_) (fun hb=> ?_)) hHeld ?_
      ·have hb1:pq=false:=by simpa using hb
       subst hb1;refine Or.inl ⟨by rfl,?_⟩;intro w' hSw
       try simp only[Bool.not_false,cond_true]
       go_simp
       try with_reducible rfl
      ·have hb1:pq=true:=by simpa using hb
       subst hb1;rfl
      try simp only[Act.put,aD,aF,aG,ay,aA,aB]
      refine yJ 31 (cond (!pq&&bB) (.pointer (some ⟨g,0,none⟩)) undef) rfl (YieldsIf.guard (!pq&&bB) (fun hb=> ?_) (fun hb=> ?_)) hHeld ?_
      ·obtain ⟨hb1,rfl⟩:pq=false∧bB=true:=by simpa using hb
       subst hb1;refine Or.inl ⟨by rfl,?_⟩;intro w' hSw
       try simp only[Bool.not_false,cond_true]
       go_simp
       try with_reducible rfl
      ·cases pq<;>cases bB<;>first|rfl|(cases hb)
      try simp only[Act.put,aD,aF,aG,ay,aA,aB]
      refine yJ 32 (cond (!pq&&bB) (.pointer (some ⟨g,0,none⟩)) undef) rfl (YieldsIf.guard (!pq&&bB) (fun hb=> ?_) (fun hb=> ?_)) hHeld ?_
      ·obtain ⟨hb1,rfl⟩:pq=false∧bB=true:=by simpa using hb
       subst hb1;refine Or.inl ⟨by rfl,?_⟩;intro w' hSw
       try simp only[Bool.not_false,Bool.and_self,cond_true]
       go_simp
       try with_reducible rfl
      ·cases pq<;>cases bB<;>first|rfl|(cases hb)
      try simp only[Act.put,aD,aF,aG,ay,aA,aB]
      refine yJ 33 (cond (!pq&&bB) (.pointer (some ⟨g,14,none⟩)) undef) rfl (YieldsIf.guard (!pq&&bB) (fun hb=> ?_) (fun hb=> ?_)) hHeld ?_
      ·obtain ⟨hb1,rfl⟩:pq=false∧bB=true:=by simpa using hb
       subst hb1;refine Or.inl ⟨by rfl,?_⟩;intro w' hSw
       try simp only[Bool.not_false,Bool.and_self,cond_true]
       go_simp
       try with_reducible rfl
      ·cases pq<;>cases bB<;>first|rfl|(cases hb)
      try simp only[Act.put,aD,aF,aG,ay,aA,aB]
      refine iw [43,42,41,40] 34 (cond (!pq&&bB) (.int .i64 ((s3.bytes:Int)+(aC x:Nat))) undef) rfl (YieldsIf.guard (!pq&&bB) (fun hb=> ?_) (fun hb=> ?_)) hHeld ?_
      ·obtain ⟨hb1,rfl⟩:pq=false∧bB=true:=by simpa using hb
       subst hb1;refine Or.inl ⟨by rfl,?_⟩;intro w' hSw;obtain ⟨hS1,hS2,gK,ku,hS5,oW,tN,uY,uZ,iY,Nt,Nu⟩:=hSw
       try simp only[Bool.not_false,Bool.and_self,cond_true]
       go_simp
       try with_reducible rfl
      ·cases pq<;>cases bB<;>first|rfl|(cases hb)
      try simp only[Act.put,aD,aF,aG,ay,aA,aB]
      refine yJ 35 (cond (!pq&&bB) (.pointer (some ⟨g,0,none⟩)) undef) rfl (YieldsIf.guard (!pq&&bB) (fun hb=> ?_) (fun hb=> ?_)) hHeld ?_
      ·obtain ⟨hb1,rfl⟩:pq=false∧bB=true:=by simpa using hb
       subst hb1;refine Or.inl ⟨by rfl,?_⟩;intro w' hSw
       try simp only[Bool.not_false,Bool.and_self,cond_true]
       go_simp
       try with_reducible rfl
      ·cases pq<;>cases bB<;>first|rfl|(cases hb)
      try simp only[Act.put,aD,aF,aG,ay,aA,aB]
      refine yJ 36 (cond (!pq&&bB) (.pointer (some ⟨g,0,none⟩)) undef) rfl (YieldsIf.guard (!pq&&bB) (fun hb=> ?_) (fun hb=> ?_)) hHeld ?_
      ·obtain ⟨hb1,rfl⟩:pq=false∧bB=true:=by simpa using hb
       subst hb1;refine Or.inl ⟨by rfl,?_⟩;intro w' hSw
       try simp only[Bool.not_false,Bool.and_self,cond_true]
       go_simp
       try with_reducible rfl
      ·cases pq<;>cases bB<;>first|rfl|(cases hb)
      try simp only[Act.put,aD,aF,aG,ay,aA,aB]
      refine yJ 37 (cond (!pq&&bB) (.pointer (some ⟨g,0,none⟩)) undef) rfl (YieldsIf.guard (!pq&&bB) (fun hb=> ?_) (fun hb=> ?_)) hHeld ?_
      ·obtain ⟨hb1,rfl⟩:pq=false∧bB=true:=by simpa using hb
       subst hb1;refine Or.inl ⟨by rfl,?_⟩;intro w' hSw
       try simp only[Bool.not_false,Bool.and_self,cond_true]
       go_simp
       try with_reducible rfl
      ·cases pq<;>cases bB<;>first|rfl|(cases hb)
      try simp only[Act.put,aD,aF,aG,ay,aA,aB]
      refine yJ 38 (cond (!pq&&bB) (.pointer (some ⟨g,1,none⟩)) undef) rfl (YieldsIf.guard (!pq&&bB) (fun hb=> ?_) (fun hb=> ?_)) hHeld ?_
      ·obtain ⟨hb1,rfl⟩:pq=false∧bB=true:=by simpa using hb
       subst hb1;refine Or.inl ⟨by rfl,?_⟩;intro w' hSw
       try simp only[Bool.not_false,Bool.and_self,cond_true]
       go_simp
       try with_reducible rfl
      ·cases pq<;>cases bB<;>first|rfl|(cases hb)
      try simp only[Act.put,aD,aF,aG,ay,aA,aB]
      refine iw [43,42,41,40] 39 (cond (!pq&&bB) (.int .i64 c.byte) undef) rfl (YieldsIf.guard (!pq&&bB) (fun hb=> ?_) (fun hb=> ?_)) hHeld ?_
      ·obtain ⟨hb1,rfl⟩:pq=false∧bB=true:=by simpa using hb
       subst hb1;refine Or.inl ⟨by rfl,?_⟩;intro w' hSw;obtain ⟨hS1,hS2,gK,ku,hS5,oW,tN,uY,uZ,iY,Nt,Nu⟩:=hSw
       try simp only[Bool.not_false,Bool.and_self,cond_true]
       go_simp
       try with_reducible rfl
      ·cases pq<;>cases bB<;>first|rfl|(cases hb)
      try simp only[Act.put,aD,aF,aG,ay,aA,aB]
      refine yJ 40 (cond (!pq&&bB) (.bool bC) undef) rfl (YieldsIf.guard (!pq&&bB) (fun hb=> ?_) (fun hb=> ?_)) hHeld ?_
      ·obtain ⟨hb1,rfl⟩:pq=false∧bB=true:=by simpa using hb
       subst hb1;refine Or.inl ⟨by rfl,?_⟩;intro w' hSw
       try simp only[Bool.not_false,Bool.and_self,cond_true]
       go_simp
       try with_reducible rfl
      ·cases pq<;>cases bB<;>first|rfl|(cases hb)
      try simp only[Act.put,aD,aF,aG,ay,aA,aB]
      refine yJ 41 (cond (!pq) (.bool q2) undef) rfl (YieldsIf.guard (!pq) (fun hb=> ?_) (fun hb=> ?_)) hHeld ?_
      ·have hb1:pq=false:=by simpa using hb
       subst hb1;refine Or.inl ⟨by rfl,?_⟩;intro w' hSw;have hq:=HQ2.out;cases bB with
       |false=>
        have hq':q2=false:=by rw[←hq];rfl
        subst hq';clear hq;simp only[Bool.not_false,Bool.and_false,cond_true,cond_false];go_simp
       |true=>
        have hq':bC=q2:=by rw[←hq];rfl
        subst hq';clear hq;simp only[Bool.not_false,Bool.and_self,cond_true];go_simp
      ·have hb1:pq=true:=by simpa using hb
       subst hb1;rfl
      try simp only[Act.put,aD,aF,aG,ay,aA,aB]
      refine yJ 42 (.bool b) rfl (Or.inl ⟨by rfl,?_⟩) hHeld ?_
      ·intro w' hSw;have hq:=PT.out;cases pq with
       |false=>
        have hq':b=q2:=by rw[hq];rfl
        subst hq';clear hq;simp only[Bool.not_false,cond_true];go_simp
       |true=>
        have hq':b=true:=by rw[hq];rfl
        subst hq';clear hq;simp only[Bool.not_true,cond_false];go_simp
      try simp only[Act.put,aD,aF,aG,ay,aA,aB]
      refine bW (i:=43) rfl (by kernel_rfl) (by kernel_rfl) (by rfl) (fun K hK=> ?_);go_simp;refine (IV.out).mono ?_;rintro e7 w7 ⟨v7,rfl,hv7,Ma⟩;refine hK _ _ ?_;clear hK K
      try simp only[Act.put,aD,aF,aG,ay,aA,aB]
      refine sU 44 rfl ?_
      try simp only[Act.put,aD,aF,aG,ay,aA,aB]
      have q45:=(JC.out.drew.kept Ma.kept Ol.out).cell 0;have r45:=(JC.out.drew.kept Ma.kept Ol.out).frozen 0;simp only[List.getElem?_toArray,List.getElem?_cons_zero] at q45;refine bW (i:=45) rfl (by kernel_rfl) (by kernel_rfl) (by rfl) (fun K hK=> ?_);go_simp;refine hK _ _ ?_;clear hK K
      try simp only[Act.put,aD,aF,aG,ay,aA,aB]
      refine bI (by kernel_rfl) ?_ _;refine NoPanic.normal ?_;go_wp2_with fail;go_meet;exact ⟨w7,rfl,hv7,Ma⟩
     case rest=>
     obtain ⟨W',rfl,acn,aco⟩:=hcut;have JE:mg w2 D F g c (bK c (eD s3 x) b).1 W':=mg.step nJ.out HD3.out KD.out (mg.step Uv.out.drew Yu.out HF9.out aco);have QF:x.sn=bZ s3:=QB.out.2.2.2;have hbq:=HB.out;have hRr:=HRR.out;rw[←hbq,QF] at hRr;have Yv:w2.heap.size≤Ce.heap.size:=Nat.le_trans nJ.out.size Uv.out.size;obtain ⟨q9,QA⟩:=F6 (R:=R) (bs:=oD (bZ s3) (bK c (eD s3 x) b).2 false false 0 x.s x.e x.ps) HKK.out sW.out (aN) hDn HH.out.lt HH.out.sub JE (aU acn Yv) (by rw[←hRr]) (by rw[←hRr];rfl) (by rw[←hRr]);have KU:=ah QA;have Yi:=ah q9;clear Ga Dy Uv Mc pI KX Uu EA IG Yu HF9 Tv IY QE QC QB Yt Ht Yr Yq R6 hbx JA TD zu KV Qr ve Up HRR DN vE Uq LJ El FB HS Us Ut HXS HX Yl Un Uo Ym BK Mb Um ZQ yh HI3 HB3 Sc nJ HD3 KD Yh KG yc HKK sW ZG HR HF Ez HI1 HT JC HB1 tV HH qi HB VL IV acn aco JE hRr QA q9 hbq y0 y1 y13 Ej p0 p1 p2 p3 p4 p5 p6 p7;generalize oD (bZ s3) (bK c (eD s3 x) b).2 false false 0 x.s x.e x.ps=bsx at*;go_wp2;refine leaves_cons (f:=76) (args:= #[.pointer (some ⟨w.heap.size,0,none⟩)]) (by simp) (by simp[go_sem]) ?_;refine (fT _ _).mono ?_;rintro e9 u9 w9 ⟨rfl,rfl,rfl⟩;have q:=Yi.out;exact ⟨.tuple #[_,.int .i64 0],by simp[results,Tryz.results55,go_sem,q],KU.out⟩
 ·have pX:=sW.out.kept hO3.kept hDn;have Qk:=ah hO3;have yc:=ah pX;have hRr:=HR.out;rw[IX HF.out hn hf3] at hRr;have KG:=ah hRr;clear pX hO3 hf3 hRr;go_wp2;refine leaves_cons (f:=76) (args:= #[.pointer (some ⟨w.heap.size,0,none⟩)]) (by simp) (by simp[go_sem]) ?_;refine (kr _ _ w3 yc.out).mono ?_;rintro e9 u9 w9 ⟨rfl,rfl,rfl⟩;have q:=((yc.out.alloc (.cells #[] 191)).av 0 (.int .i64 8)).cell 0;simp at q;refine ⟨.tuple #[.slice none 0 0,.int .i64 8],by simp[results,Tryz.results55,go_sem,q],?_⟩;rw[←KG.out];refine KQ rfl rfl ?_;exact (Qk.out.alloc _).put HKK.out (aN) sW.out.lt HH.out.lt HH.out.sub 0 _
end
end
section
open Go.RowKit Go.Shelf
attribute [local go_sem] Oper.semAt_some
section
variable {D F:Nat→Prop} {g:Nat} {c:Cf} {st:Sd} {vq vo:Value} {vs os:List Value} {w:World}
def behind (st:Sd) (m:Int) (x:Nk):Bool:=decide (m≤eY st x.sn)
set_option maxRecDepth 10000 in
set_option maxHeartbeats 1000000 in
theorem Qg (h:eZ w D F g c st vq vs vo os) (h1:st.first<1024) (bs bn:Nat) (m:Int) (hs:au w bs 49 #[.pointer (some ⟨g,0,none⟩)]) (hn:au w bn 3 #[.int .i64 m]) (x:Nk) (hx:0≤x.sn∧x.sn≤1023):
 Calls Tryz.prog 144 #[.agg (lq x),.pointer (some ⟨bs,0,none⟩),.pointer (some ⟨bn,0,none⟩)] w fun e w'=>e= .returned (.bool (behind st m x))∧Below w.heap.size w w':=by
 have hB:Below w.heap.size w (w.alloc (.cells (lq x) 197)):=(Below.refl _ w).alloc (aN) _;have s0:=(hs.below hB hs.lt).cell 0;have n0:=(hn.below hB hn.lt).cell 0;have hA:=h.below hB;have E7:=ah (fun (k:Nat)=>uD (hA.drewN k) h1 x.sn hx);have HB:=ah hB;simp[lq] at s0 n0;have b0:(w.alloc (.cells (lq x) 197)).cell? ⟨w.heap.size,0,none⟩=some (.int .i64 x.sn):=(au.new w 197 (lq x)).cell 0;clear hA h hs hn hB;unfold lq at*;go_enter Tryz.func144,Tryz.ntmps144;go_upto_region 1 with (fail)
 generalize w.alloc (.cells #[.int .i64 x.sn,.bool x.part,.int .i64 x.fr,.int .i64 x.lt] 197)=w1 at*
 go_quiet ((go_at_call 142;exact Calls.quiet_of_same ((E7.out _).mono fun _ _ hh=>⟨hh.1,hh.2.symm⟩)))
 go_wp2;go_ret;exact ⟨rfl,HB.out.drewN _⟩
set_option maxRecDepth 10000 in
set_option maxHeartbeats 1000000 in
theorem Qh (h:eZ w D F g c st vq vs vo os) (h1:st.first<1024) (bs bn:Nat) (m:Int) (hs:au w bs 49 #[.pointer (some ⟨g,0,none⟩)]) (hn:au w bn 3 #[.int .i64 m])
 (A:Option Addr) (n cc:Nat) (l:List Nk) (hN:bX w A n cc l) (hx:∀x∈l,0≤x.sn∧x.sn≤1023):
 Calls Tryz.prog 184 #[.slice A n cc,.func (.func 144) #[] #[.pointer (some ⟨bs,0,none⟩),.pointer (some ⟨bn,0,none⟩)]] w
  fun e w'=>(∃i:Int,e= .returned (.int .i64 i)∧decide (0≤i)=l.any (behind st m))∧Below w.heap.size w w':=by
 have hcap:=hN.cap;have hmx:=hN.mx;have HL:=ah hN.len;have HN:=ah hN;have HC:=ah (fun (W:World) (hW:Below w.heap.size w W) (x:Nk) (hx:0≤x.sn∧x.sn≤1023)=>Qg (h.below hW) h1 bs bn m (hs.below hW hs.lt) (hn.below hW hn.lt) x hx);have HX:=ah hx;clear h hs hn hN hx;unfold lq at HC;go_enter Tryz.func184,Tryz.ntmps184;go_wp2
 go_loopw [8] (fun i wr=>∃k:Nat,k≤n∧i= .int .i64 k∧Below w.heap.size w wr∧∀(j:Nat) (y:Nk),j<k→l[j]? =some y→behind st m y=false) (fun i _=>n-(intOf i).toNat)
 case atStart=>exact ⟨0,Nat.zero_le _,rfl,Below.refl _ _,fun j y hj=>by omega⟩
 case round=>
  obtain ⟨k,hk,rfl,hb,hall⟩:=hrel;have HA:=ah hall;clear hall;by_cases hlt:k<n
  ·obtain ⟨x,hx⟩:∃x,l[k]? =some x:=⟨_,List.getElem?_eq_getElem (by have:=HL.out;omega)⟩
   obtain ⟨ad,rfl,Bh,hcl⟩:=(HN.out.below hb).at_ (by omega);obtain ⟨k0,k1,k2,k3⟩:=hcl k x hx;have hcall:=HC.out wr hb x (HX.out x (List.mem_of_getElem? hx));have HK:=ah hx;have ZE:=ah hcall;have HB:=ah hb;clear hx hcl hcall hb;go_wp2_with fail;refine ZE.out.mono ?_;rintro e1 w1 ⟨rfl,hb1⟩;have HB1:=ah (HB.out.trans (hb1.mono HB.out.size));clear hb1 k0 k1 k2 k3;cases hq:behind st m x with
   |false=>
    have HQ:=ah hq;clear hq;go_wp2
    go_round
    case rel=>
     refine ⟨k+1,by omega,by go_num,HB1.out,fun j y hj hy=> ?_⟩;rcases Nat.lt_or_ge j k with h2|h2
     ·exact HA.out j y h2 hy
     ·rw[show j=k by omega,HK.out] at hy;cases hy;exact HQ.out
    case measure=>simp[intOf];omega
   |true=>
    have HQ:=ah hq;clear hq;go_wp2;go_ret;refine ⟨⟨_,rfl,?_⟩,HB1.out⟩;rw[List.any_eq_true.2 ⟨x,List.mem_of_getElem? HK.out,HQ.out⟩];simp
  ·have HB:=ah hb;clear hb;go_wp2;go_ret;refine ⟨⟨_,rfl,?_⟩,HB.out⟩;have:l.any (behind st m)=false:=by
    rw[List.any_eq_false];intro y hy;obtain ⟨j,hj⟩:=List.mem_iff_getElem?.1 hy;have:=HA.out j y (by have:=(List.getElem?_eq_some_iff.1 hj).1;have:=HL.out;omega) hj;simp[this]
   rw[this];rfl
theorem Nf (h:eZ w D F g c st vq vs vo os) (h1:st.first<1024) (bs bn:Nat) (m:Int) (hs:au w bs 49 #[.pointer (some ⟨g,0,none⟩)]) (hn:au w bn 3 #[.int .i64 m])
 (A:Option Addr) (n cc:Nat) (l:List Nk) (hN:bX w A n cc l) (hx:∀x∈l,0≤x.sn∧x.sn≤1023):
 Calls Tryz.prog 143 #[.slice A n cc,.func (.func 144) #[] #[.pointer (some ⟨bs,0,none⟩),.pointer (some ⟨bn,0,none⟩)]] w
  fun e w'=>e= .returned (.bool (l.any (behind st m)))∧Below w.heap.size w w':=by
 have hix:=Qh h h1 bs bn m hs hn A n cc l hN hx;have Oh:=ah hix;clear h hs hn hN hx hix;go_enter Tryz.func143,Tryz.ntmps143;go_wp2_with fail;refine Oh.out.mono ?_;rintro e1 w1 ⟨⟨i,rfl,hi⟩,hb⟩;have HI:=ah hi;have HB:=ah hb;clear hi hb;go_wp2;go_ret;exact ⟨bR HI.out,HB.out⟩
end
end
end Go.Proofs.YtbhiklnljiehiaaGreat
