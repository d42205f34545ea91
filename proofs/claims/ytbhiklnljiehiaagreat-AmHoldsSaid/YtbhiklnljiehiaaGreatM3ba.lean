/- amsend: Grant, the calls that give no ne. -/
import Derived.Test.YtbhiklnljiehiaaGreatM3at
import Derived.Test.YtbhiklnljiehiaaGreatM3au
import Derived.Test.YtbhiklnljiehiaaGreatM3az
set_option maxHeartbeats 40000000
set_option maxRecDepth 100000
namespace Go.Proofs.YtbhiklnljiehiaaGreat
open RowKit Shelf Tryz
attribute [local go_sem] Oper.semAt_some
section
variable {D F:Nat->Prop} {g:Nat} {c:Cf} {st:Sd} {vq vo:Value} {vs os:List Value} {w:World}
theorem YieldsIf.guard {P:Program} {ops:Array Oper} {S:World->Prop} {o:Oper} {v:Value} {a:Act} (b:Bool) (h1:b=true->YieldsIf P ops S o v a) (h2:b=false->Region.wanted o (yielded ops a.tmps)=false):YieldsIf P ops S o (cond b v undef) a:=by
 cases b with
 |true=>exact h1 rfl
 |false=>exact .inr ⟨h2 rfl,rfl⟩
theorem Zb:(prog.info? 138).map (fun i=>(i.zero,i.size,i.bytes))=some (some (.pointer none),1,8):=by kernel_rfl
theorem VY:∃i,prog.info? 138=some i/\i.zero=some (.pointer none)/\i.size=1/\i.bytes=8:=by
 have h:=Zb;cases hi:prog.info? 138 with
 |none=>rw[hi] at h;cases h
 |some i=>
  rw[hi] at h;simp only[G8,sj,BA] at h;exact ⟨i,rfl,h.1,h.2.1,h.2.2⟩
theorem acZ:prog.underlying 141=some (.slice 138):=by kernel_rfl
theorem jv.drew {p:Nat} {x:Ou} {Ap Ar:Option Addr} {cp cr:Nat} {vp:List Value} (h:jv w D F p x Ap cp vp Ar cr):jv w.drew D F p x Ap cp vp Ar cr:=h.drewN 1
def NI (w:World) (D F:Nat->Prop) (g:Nat) (c:Cf) (R:Sd × Option Pu × Int) (e:Ending) (w':World):Prop:=
 ∃v,e= .returned (.tuple #[v,R.2.2])/\w'.ownsRow w 5 1 v (D7 R.2.1).length (dz (D7 R.2.1))/\pK w D F g c R.1 w'
theorem Qc {R:Sd × Option Pu × Int} {w':World} {er:Int} (h1:R.2.1=none) (h2:R.2.2=er) (h3:pK w D F g c R.1 w'):NI w D F g c R (.returned (.tuple #[.slice none 0 0,er])) w':=
 ⟨_,by rw[h2],by rw[h1];exact jl _ _ _ _,h3⟩
def zh (c:Cf) (s1:Sd) (n:Int):Sd × Option Pu:=
 match gZ s1.out with
  |some i=>match s1.out[i]? with
   |some x=>dK c n s1 i x
   |none=>(s1,none)
  |none=>match bU c n s1 with
   |(s2,none)=>(s2,none)
   |(s2,some (x,b))=>(s2,some ⟨x.sn,b,false,false,0,x.s,x.e,x.ps⟩)
theorem Qd {c:Cf} {st:Sd} {now n:Int} (h1:st.failed=false) (h2:0<=n) (h3:(aB c st now).failed=false):aZ c st now n=((zh c (aB c st now) n).1,(zh c (aB c st now) n).2,0):=by
 unfold aZ kF zh;rw[aP (by simp[h1]),aP (by omega),aP (by simp[h3])];cases hp:gZ (aB c st now).out with
 |some i=>
  obtain ⟨x,hx,_⟩:=fH hp;simp only[hx];simp
 |none=>
  dsimp only;generalize bU c n (aB c st now)=R;obtain ⟨s2,_|⟨x,b⟩⟩:=R
  ·simp
  ·simp
theorem NJ {c:Cf} {st:Sd} {now n:Int} (h1:st.failed=false) (h2:0<=n) (h3:(aB c st now).failed=true):aZ c st now n=(aB c st now,none,8):=by
 unfold aZ kF;rw[aP (by simp[h1]),aP (by omega),bD h3];rfl
theorem Lh {W W':World} {be:Nat} {v4:Value} {s1:Sd} {bs:List UInt8} {v:Value} {R:Sd × Option Pu × Int} (hk:Kept (fun k _=>D k) w W) (hb:av W be 53 #[v4]) (hbw:w<=be) (hD:¬D be) (hF:∀k,F k->k<w.heap.size) (hDF:∀k,D k->F k)
 (hO:pK W D F g c s1 W') (hv:W'.ownsRow W 5 1 v bs.length (dz bs)) (h1:R.1=s1) (h2:D7 R.2.1=bs) (h3:R.2.2=0):
 (W'.setCell be (.int .i64 0)).cell? be=some (.int .i64 0)/\NI w D F g c R (.returned (.tuple #[v,.int .i64 0])) (W'.setCell be (.int .i64 0)):=by
 have hb':=hb.kept hO.kept hD;have:=(hb'.ay 0 (.int .i64 0)).cell 0;refine ⟨by simpa using this,v,by rw[h3],?_,?_⟩
 ·rw[h2];exact bF (aN (i:=0) hv hb' (by decide) _) hk.size
 ·rw[h1];exact hO.put hk hbw hb.lt hF hDF 0 _
theorem Li (h:gu w D F g c st vq vs vo os) (ht:1<=c.timer) (now n:Int) (hx:st.failed=true\/n<0):
 Calls prog 55 #[.pointer (some g),now,n] w (NI w D F g c (aZ c st now n)):=by
 have hA:=h.alloc (.cells #[.int .i64 0] 53);have hch:=lu hA ht;have uy:=ah hch;have HH:=ah h;cases hf:st.failed with
 |true=>
  rw[hf] at uy;have hfin:aZ c st now n=(st,none,8):=by unfold aZ;rw[bD hf]
  rw[hfin];simp only[bD] at uy;clear h hA hch hf hfin hx
  go_enter_defers func55,ntmps55
  go_wp2_with fail;refine uy.out.mono ?_;rintro e1 w1 ⟨rfl,rfl⟩;go_wp2
  go_region
  go_wp2;refine ⟨.tuple #[.slice none 0 0,.int .i64 8],by simp[results,results55,go_sem],Qc rfl rfl ?_⟩;exact ((HH.out.alloc _).o ((Kept.refl _ w).alloc _)).drewN 1
 |false=>
  have hn:n<0:=by
   rcases hx with h|h
   ·rw[hf] at h;cases h
   ·exact h
  rw[hf] at uy;have hfin:aZ c st now n=(st,none,2):=by unfold aZ;rw[aP (by simp[hf]),bD hn]
  rw[hfin];simp only[mq,l7] at uy;clear h hA hch hf hfin hx
  go_enter_defers func55,ntmps55
  go_wp2_with fail;refine uy.out.mono ?_;rintro e1 w1 ⟨rfl,rfl⟩;go_wp2;refine ⟨.tuple #[.slice none 0 0,.int .i64 2],by simp[results,results55,go_sem],Qc rfl rfl ?_⟩;exact (HH.out.alloc _).o ((Kept.refl _ w).alloc _)
theorem Qe (h:gu w D F g c st vq vs vo os) (ht:J9 c) {K:Nat} (hB:lK st K) (hK:K<=90000) (hI:bY st) (hf:st.failed=false) (now n:Int) (ed:now<=9223372036854775807) (hn:0<=n) (hn2:n<=9223372036854775807):
 Calls prog 55 #[.pointer (some g),now,n] w (NI w D F g c (aZ c st now n)):=by
 have hA:=h.alloc (.cells #[.int .i64 0] 53);have hch:=lu hA ht.timer.1;rw[hf] at hch;simp only[mq,l7] at hch;have uy:=ah hch;have HH:=ah h;have hgo:=Cc hA now;have yh:=ah hgo;have hB1:=hB.clock ed;have HB1:=ah hB1;have Dy:=av.new w 53 #[.int .i64 0];have Ol:=ah Dy;have HT:=ah ht;have HI1:=ah (hI.tick c now);have Jk:=ah (hB.tick c ed);have hw:=hI.w;have hDn:¬D w.heap.size:=h.fresh (aL);obtain ⟨R,hR⟩:∃R,aZ c st now n=R:=⟨_,rfl⟩
 rw[hR];have HR:=ah hR;have HF:=ah hf;clear h hA hch hgo hB1 Dy hI hB ht hf hR
 go_enter_defers func55,ntmps55
 go_wp2_with fail;refine uy.out.mono ?_;rintro e1 w1 ⟨rfl,rfl⟩;go_wp2_with fail;refine yh.out.mono ?_;rintro e2 w2 ⟨rfl,hA2,hk2⟩;have hex:=AB hA2 HB1.out (by omega) hw HF.out;have vK:=Ol.out.kept hk2 hDn;have HEX:=ah hex;have xN:=ah vK;have hkk:Kept (fun k _=>D k) w w2:=((Kept.refl _ w).alloc _).trans hk2;have HKK:=ah hkk;have hz2:w.heap.size<w2.heap.size:=vK.lt;clear hA2 hex vK hk2 hkk;go_wp2_with fail;refine HEX.out.mono ?_;rintro e3 w3 ⟨⟨hf3,rfl⟩|⟨hf3,rfl⟩,hO3⟩
 ·have tX:=xN.out.kept hO3.kept hDn;have hRr:=HR.out;rw[Qd HF.out hn hf3] at hRr;have PV:=ah hRr;have Co:=ah tX;obtain ⟨D3,F3,vq3,vs3,vo3,os3,hA3,hD3,hF3,hk3⟩:=hO3;have hts:gH c (cO st now)=aB c st now:=rfl;rw[hts] at hA3 hf3;have hI3:=HI1.out;have hB3:=Jk.out;generalize aB c st now=s3 at*;have ahs:Kept (fun k _=>D k) w w3:=HKK.out.trans hk3;have Cg:=ah hA3;have HD3:=ah hD3;have PS:=ah hF3;have qR:=ah hk3;have ac0:=ah ahs;have hpn:=Aw hA3 (by have:=hI3.w;omega);have Xo:=ah hpn;have HI3:=ah hI3;have HB3:=ah hB3;have aht:=hI3.w;have Qf:=hI3.f;unfold QK at Xo;clear tX hRr hD3 hF3 hk3 hf3 hts hpn hI3 hB3 ahs;cases hpa:gZ s3.out with
  |some i=>
   rw[hpa] at Xo;obtain ⟨x,hx,hxp,_⟩:=fH hpa;obtain ⟨p,Ap,cp,vp,Ar,cr,he,ho⟩:=hA3.oe i x hx;have hg1:os3[i]?.getD (.pointer none)= .pointer (some ⟨p,0,none⟩):=by rw[he];rfl
   simp only[hg1] at Xo;have hag:=Ph hA3 HB3.out aht Qf hx he ho hxp n hn hn2;have hgb:zh c s3 n=dK c n s3 i x:=by unfold zh;rw[hpa];simp only[hx]
   have hRr:=PV.out;rw[hgb] at hRr;have HRR:=ah hRr;have HAG:=ah hag;clear hA3 hpa hx hxp he ho hg1 hag hgb hRr;go_wp2_with fail;refine Xo.out.mono ?_;rintro e4 w4 ⟨rfl,rfl⟩;go_wp2_with fail;refine HAG.out.mono ?_;rintro e5 w5 ⟨v5,rfl,hv5,LH⟩;have Oj:pK w2 D F g c (dK c n s3 i x).1 w5:=pK.step qR.out HD3.out PS.out LH;have Ae:=xN.out.kept Oj.kept hDn;obtain ⟨q9,VZ⟩:=Lh (R:=R) (bs:=D7 (dK c n s3 i x).2) (v:=v5) HKK.out xN.out (aL) hDn HH.out.lt HH.out.sub Oj (bF hv5 qR.out.size) (by rw[<-HRR.out]) (by rw[<-HRR.out]) (by rw[<-HRR.out]);have c5:=Ae.cell 0;have f5:=Ae.frozen 0;simp at c5;have Qg:=ah VZ;have HQ9:=ah q9;clear hv5 LH Oj Ae VZ q9;go_wp2;refine nD (f:=76) (args:= #[.pointer (some w)]) (by simp) (by simp[go_sem]) ?_;refine (iw _ _).mono ?_;rintro e9 u9 w9 ⟨rfl,rfl,rfl⟩;have q:=HQ9.out;exact ⟨.tuple #[v5,.int .i64 0],by simp[results,results55,go_sem,q],Qg.out⟩
  |none=>
   rw[hpa] at Xo;simp only at Xo;have hgb:zh c s3 n=match bU c n s3 with|(s2,none)=>(s2,none)|(s2,some (x,b))=>(s2,some ⟨x.sn,b,false,false,0,x.s,x.e,x.ps⟩):=by unfold zh;rw[hpa]
   have HGB:=ah hgb;have Bt:=hA3.blk.cell 12;simp[fV] at Bt;obtain ⟨Ao,co,rfl,hso⟩:=hA3.Ya;have agL:=hso.cap;have alv:=hso.mx;have tX:=Co.out;have c3:=tX.cell 0;have f3:=tX.frozen 0;simp at c3;have Cg:=ah hA3;clear hA3 hpa hgb hso tX;go_wp2_with fail;refine Xo.out.mono ?_;rintro e4 w4 ⟨rfl,rfl⟩;by_cases Qa:512<=s3.out.length
   ·have d5:decide (512<=s3.out.length)=true:=iK Qa;have hfr:bU c n s3=(s3,none):=by unfold bU;rw[bD Qa]
    have hgb:=HGB.out;rw[hfr] at hgb;have hRr:=PV.out;rw[hgb] at hRr;have HRR:=ah hRr;have Oj:pK w2 D F g c s3 w3:=pK.step qR.out HD3.out PS.out (Cg.out.o (Kept.refl _ w3));obtain ⟨q9,VZ⟩:=Lh (R:=R) (bs:= []) (v:= .slice none 0 0) HKK.out xN.out (aL) hDn HH.out.lt HH.out.sub Oj (jl _ _ _ _) (by rw[<-HRR.out]) (by rw[<-HRR.out];rfl) (by rw[<-HRR.out]);have Qg:=ah VZ;have HQ9:=ah q9;clear hfr hgb hRr Oj VZ q9;go_wp2;refine nD (f:=76) (args:= #[.pointer (some w)]) (by simp) (by simp[go_sem]) ?_;refine (iw _ _).mono ?_;rintro e9 u9 w9 ⟨rfl,rfl,rfl⟩;have q:=HQ9.out;exact ⟨.tuple #[.slice none 0 0,.int .i64 0],by simp[results,results55,go_sem,q],Qg.out⟩
   ·have d5:decide (512<=s3.out.length)=false:=iP Qa;have hch:=SV Cg.out n hn hn2 HB3.out.RB (by have:=HI3.out.le;have:=HB3.out.held;omega);have Zc:=ah hch;have hfr:bU c n s3=if (aJ n s3).ps= [] then (s3,none) else ((aG c (cK s3 (aJ n s3)) (dF c (cK s3 (aJ n s3)))).1,some (aJ n s3,(aG c (cK s3 (aJ n s3)) (dF c (cK s3 (aJ n s3)))).2)):=by unfold bU;rw[aP Qa]
    have Q7:=ah hfr;clear hch hfr;go_wp2_with fail;refine Zc.out.mono ?_;rintro e5 w5 ⟨Ap,cp,sB,rfl,SX,hb5,hsB⟩;dsimp only at SX hsB ⊢;have hxa:(aJ n s3).bJ=false/\(aJ n s3).pend= []/\(aJ n s3).fF=0/\(aJ n s3).sn=dM s3:=⟨rfl,rfl,rfl,rfl⟩;have ac2:=chunk_ok HB3.out HI3.out.toInvV n;have ac3:=xh HI3.out.toInvV n;obtain ⟨x,hx⟩:∃x,aJ n s3=x:=⟨_,rfl⟩
    rw[hx] at SX hsB hxa ac2 ac3 Q7;simp only[hx];have HX:=ah hx;have HXA:=ah hxa;have Zd:=ah ac2;have Ze:=ah ac3;have ac5:=ah SX;have Gn:=ah hsB;have On:=ah hb5;have hkb:Kept (fun k _=>D3 k) w3 w5:=(Kept.of_below hb5).iI fun k o ho hm=>by have:=lt_of_heap ho;omega
    have Yh:=ah hkb;have Ae:=(Co.out.below hb5 Co.out.lt).alloc (.cells #[.bool sB,.bool x.e,.slice Ap x.ps.length cp] 145);have bc5:=av.new w5 145 #[.bool sB,.bool x.e,.slice Ap x.ps.length cp];have RU:=(Cg.out.below hb5).alloc (.cells #[.bool sB,.bool x.e,.slice Ap x.ps.length cp] 145);have hk5:=hkb.alloc (.cells #[.bool sB,.bool x.e,.slice Ap x.ps.length cp] 145);have xK:=SX.Fw ((bS _ w5).alloc (aL) (.cells #[.bool sB,.bool x.e,.slice Ap x.ps.length cp] 145));have hcap5:x.ps.length<=cp/\cp<=9223372036854775807:=by
     obtain ⟨vl,h1,_⟩:=SX;exact ⟨(gK h1).cap,(gK h1).mx⟩
    obtain ⟨hcp1,hcp2⟩:=hcap5;have DR:=ah Ae;have Qh:=ah bc5;have VB:=ah RU;have zw:=ah hk5;have Zf:=ah xK;clear hx hxa ac2 ac3 SX hsB hb5 hkb Ae bc5 RU hk5 xK c3 f3 Bt;by_cases hps:x.ps= []
    ·have d6:((x.ps.length:Int)==0)=true:=by rw[hps];rfl
     have hfr:=Q7.out;rw[bD hps] at hfr;have hgb:=HGB.out;rw[hfr] at hgb;have hRr:=PV.out;rw[hgb] at hRr;have HRR:=ah hRr;have Qy:=ah hps;have Oj:pK w2 D F g c s3 (w5.alloc (.cells #[.bool sB,.bool x.e,.slice Ap x.ps.length cp] 145)):=pK.step qR.out HD3.out PS.out (VB.out.o zw.out);obtain ⟨q9,VZ⟩:=Lh (R:=R) (bs:= []) (v:= .slice none 0 0) HKK.out xN.out (aL) hDn HH.out.lt HH.out.sub Oj (jl _ _ _ _) (by rw[<-HRR.out]) (by rw[<-HRR.out];rfl) (by rw[<-HRR.out]);have Qg:=ah VZ;have HQ9:=ah q9;clear hfr hgb hRr Oj VZ q9 hps;go_upto_region 15 with (fail)
     have c5:=DR.out.cell 0;have f5:=DR.out.frozen 0;have d2:(w5.alloc (.cells #[.bool sB,.bool x.e,.slice Ap x.ps.length cp] 145)).cell? ⟨w5,2,none⟩=some (.slice Ap x.ps.length cp):=Qh.out.cell 2;simp only[nW,oH] at c5;generalize w5.alloc (.cells #[.bool sB,.bool x.e,.slice Ap x.ps.length cp] 145)=w6 at*;go_wp2;refine nD (f:=76) (args:= #[.pointer (some w)]) (by simp) (by simp[go_sem]) ?_;refine (iw _ _).mono ?_;rintro e9 u9 w9 ⟨rfl,rfl,rfl⟩;have q:=HQ9.out;exact ⟨.tuple #[.slice none 0 0,.int .i64 0],by simp[results,results55,go_sem,q],Qg.out⟩
    ·have hpl:0<x.ps.length:=Iz.2 hps;have d6:((x.ps.length:Int)==0)=false:=by simp;omega
     have hfr:=Q7.out;rw[aP hps] at hfr;have hgb:=HGB.out;rw[hfr] at hgb;have hRr:=PV.out;rw[hgb] at hRr;have HRR:=ah hRr;have hok:=Zd.out hps;have hsm:=Ze.out hps;have hsb:sB=x.s:=Gn.out hps;subst hsb;have IP:=ah hok;have zP:=ah hsm;clear hfr hgb hRr hps hok hsm;go_upto_region 15 with (fail)
     have c5:=DR.out.cell 0;have f5:=DR.out.frozen 0;have d0:(w5.alloc (.cells #[.bool x.s,.bool x.e,.slice Ap x.ps.length cp] 145)).cell? w5=some (.bool x.s):=Qh.out.cell 0;have d1:(w5.alloc (.cells #[.bool x.s,.bool x.e,.slice Ap x.ps.length cp] 145)).cell? ⟨w5,1,none⟩=some (.bool x.e):=Qh.out.cell 1;have d2:(w5.alloc (.cells #[.bool x.s,.bool x.e,.slice Ap x.ps.length cp] 145)).cell? ⟨w5,2,none⟩=some (.slice Ap x.ps.length cp):=Qh.out.cell 2;simp only[nW,oH] at c5;have Zg:=ah ((bS w5 w5).alloc (aL) (.cells #[.bool x.s,.bool x.e,.slice Ap x.ps.length cp] 145));have QO:=ah (mZ w5 (.cells #[.bool x.s,.bool x.e,.slice Ap x.ps.length cp] 145));generalize w5.alloc (.cells #[.bool x.s,.bool x.e,.slice Ap x.ps.length cp] 145)=w6 at*;go_wp2_with fail;have QR:=VB.out;have xK:=Zf.out;obtain ⟨vl6,Zh,ac6⟩:=xK;have ahu:jW w6 w6 Ap x.ps.length cp vl6 x.ps:=⟨gK Zh,rfl,fun i q hi=>let ⟨A,cq,e,ho⟩:=ac6 i q hi;⟨A,cq,e,gK ho⟩⟩;have hxs:=IP.out.ps;have Dx:∀q∈x.ps,q.length<=1099511627776:=fun q hq=>by
      have:=jw hq;have:=hxs.sum;omega
     have hxh:=hxs.hi;have hnx:∀W,Below w6 w6 W->Calls prog 87 #[.pointer (some g)] W fun e w'=>e= .returned (.int .i64 (dM s3:Nat))/\Below w6 w6 w':=fun W hW=>
      (xw (QR.below hW) Qf (by omega)).mono fun e w' hh=>⟨hh.1,by obtain ⟨q,rfl⟩:=hh.2;exact hW.drewN q⟩
     have hsz:∀W,Below w6 w6 W->Calls prog 88 #[.agg #[.bool x.s,.bool x.e,.slice Ap x.ps.length cp]] W fun e w'=>e= .returned (.int .i64 (au x:Nat))/\Below w6 w6 w':=fun W hW=>
      (vX x.s x.e Ap x.ps.length cp vl6 x.ps W ((ahu.below hW).more hW.size) (by omega) Dx).mono fun e w' hh=>⟨hh.1,hW.trans (hh.2.mono hW.size)⟩
     have al2:=Zh;have hl5:w5.heap.size<w6.heap.size:=by have:=QO.out;omega
     have hS:∀W,Below w6 w6 W->(W.cell? w5=some (.bool x.s)/\W.cell? ⟨w5,1,none⟩=some (.bool x.e)/\W.cell? ⟨w5,2,none⟩=some (.slice Ap x.ps.length cp)):=fun W hW=>⟨(hW.cell (p:=⟨w5,0,none⟩) hl5).trans d0,(hW.cell (p:=⟨w5,1,none⟩) hl5).trans d1,(hW.cell (p:=⟨w5,2,none⟩) hl5).trans d2⟩
     have Jh:=ah hnx;have KI:=ah hsz;have HS:=ah hS;have Zi:=ah Zh;have Zj:=ah ac6;have HXS:=ah hxs;clear hnx hsz hS Zh ac6 ahu Dx hxs QR al2;go_cut [10] from 44 to 51 (fun s10 wx=>∃p,s10= .pointer (some ⟨p,0,none⟩)/\av wx p 152 #[.int .i64 (dM s3:Nat),.bool false,.bool false,.bool false,.int .i64 0,.bool x.s,.bool x.e,.slice Ap x.ps.length cp,.int .i64 (au x:Nat),.bool false,.slice none 0 0,.int .i64 0]/\Below w6 w6 wx/\w6.heap.size<=p)
     case first=>
      have hb0:=bS w6 w6
      go_region_held3 (fun W=>W.cell? w5=some (.bool x.s)/\W.cell? ⟨w5,1,none⟩=some (.bool x.e)/\W.cell? ⟨w5,2,none⟩=some (.slice Ap x.ps.length cp))
       (first|go_keep|exact HS.out _ (by assumption)|exact HS.out _ (Below.drew (by assumption))|exact HS.out _ (Below.drewN (by assumption) _))
       (first
        |(go_at_call 87;refine (Jh.out _ (by first|assumption|exact Below.drew (by assumption)|exact Below.drewN (by assumption) _)).mono ?_;rintro e7 w7 ⟨rfl,qT⟩)
        |(go_at_call 88;refine (KI.out _ (by first|assumption|exact Below.drew (by assumption)|exact Below.drewN (by assumption) _)).mono ?_;rintro e7 w7 ⟨rfl,qT⟩)
        |fail)
      all_goals
       go_wp2;go_meet;exact ⟨_,rfl,av.new _ _ _,qT.alloc qT.size _,qT.size⟩
     case rest=>
     obtain ⟨p,rfl,hbp,hbx,as4⟩:=hcut;have hz3:=On.out.size;have as5:=QO.out;have hzc:=hbx.size;have hbW:Below w3 w3 wc:=On.out.trans ((Zg.out.mono hz3).trans (hbx.mono (by omega)));have YV:=VB.out.below hbx;have ac7:cZ wc w3 (.slice Ap x.ps.length cp) x.ps:=cZ.Fw ⟨vl6,Zi.out,Zj.out⟩ hbx;have hxa:=HXA.out;obtain ⟨xa1,xa2,xa3,xa4⟩:=hxa;have ac8:av wc p 152 (My x (.slice Ap x.ps.length cp) (.slice none 0 0)):=by
      have e:My x (.slice Ap x.ps.length cp) (.slice none 0 0)= #[.int .i64 (dM s3:Nat),.bool false,.bool false,.bool false,.int .i64 0,.bool x.s,.bool x.e,.slice Ap x.ps.length cp,.int .i64 (au x:Nat),.bool false,.slice none 0 0,.int .i64 0]:=by
       unfold My;rw[xa1,xa3,xa4];rfl
      rw[e];exact hbp
     have hkW:Kept (fun k _=>D k) w2 wc:=qR.out.step ((Kept.of_below hbW).iI fun k o ho hm=>by have:=lt_of_heap ho;omega) HD3.out;have beW:=DR.out.below hbx DR.out.lt;have Bt:=YV.blk.cell 12;have e12:=YV.blk.frozen 12;simp[fV] at Bt;have al7:=YV.blk.lt;have Xl:=ah YV;have ac9:=ah ac7;have ada:=ah ac8;have MU:=ah hbW;have adb:=ah beW;have V2:=ah (And.intro xa1 (And.intro xa2 (And.intro xa3 xa4)));have Vq:=ah (fun (w8:World) (A8:Option Addr) (c8:Nat) hq8 XT hf8=>Cg.out.grow (W2:=wc) (w5:=w8) (x:=x) (Ap:=Ap) (A5:=A8) (cp:=cp) (c5:=c8) (p:=p) (base:=w3.heap.size) hbW ac8 (by omega) ac7 (aL) xa2 (fun q hq=>HXS.out.pos q hq) hq8 XT hf8);obtain ⟨j1,hj1,hq0,hq1,hq2⟩:=VY;clear YV ac7 ac8 hbW beW xa1 xa2 xa3 xa4 hbp hkW;go_wp2_with (at_builtin;refine DC rfl (.tmp 56) (.tmp 58) 141 rfl j1 (.pointer none) 8 acZ hj1 hq0 hq1 hq2 rfl rfl (Xl.out.yL.alloc (.cells #[.pointer (some ⟨p,0,none⟩)] 138)) ⟨wc,0,none⟩ 1 (.pointer (some ⟨p,0,none⟩)) rfl ?c1 rfl ?c2 ?c3 ?c4 ?_)
     case c1=>exact World.news_of_block (Et wc _) 0 _ rfl
     case c2=>unfold maxLen;omega
     case c3=>omega
     case c4=>omega
     intro v8 w8 V3 Qi hq8;obtain ⟨A8,c8,rfl,hs8⟩:=V3.sl;obtain ⟨D9,F9,vl9,hA9,hD9,hF9,XR,hO9⟩:=Vq.out w8 A8 c8 V3 Qi (fun k hk=>(hq8 k hk).imp id (fun h=>by rw[mZ];exact h));have TP:=((Xl.out.blk.alloc (.cells #[.pointer (some ⟨p,0,none⟩)] 138)).grown Qi (fun e=>Xl.out.gne.2 e.symm));have ahv:=TP.cell 12;have al8:=TP.frozen 12;simp[fV] at ahv;have al9:g<(wc.alloc (.cells #[.pointer (some ⟨p,0,none⟩)] 138)).heap.size:=zD Xl.out.blk.lt (by simp);have Nt:=ah hA9;have HD9:=ah hD9;have HF9:=ah hF9;have YW:=ah XR;have NK:=ah hO9;have Y8:av (w8.setCell ⟨g,12,none⟩ (.slice A8 (s3.out.length+1) c8)) w 53 #[.int .i64 0]:=Co.out.kept XR (fun hd=>by
      rcases HD3.out _ hd with e|e
      ·exact hDn e
      ·omega)
     have V4:=ah Y8;clear hA9 hD9 hF9 XR hO9 V3 Qi hq8 hs8 TP Y8;go_upto_region 19 with (fail)
     generalize w8.setCell ⟨g,12,none⟩ (.slice A8 (s3.out.length+1) c8)=w9 at*;clear ahv al8 Bt e12 d0 d1 d2 c5 f5 al9 al7;have KQ:=Nt.out.blk.cell 10;have e10:=Nt.out.blk.frozen 10;have p8:=NK.out.blk.cell 8;simp[fV] at KQ;simp[My] at p8;have hsm:=zP.out;have QB:=HB3.out.held;have O4:=HB3.out.fG;have hby:=HB3.out.bytes;have as9:=lM IP.out;have hts:s3.taken+au x<=1048576:=by omega
     have VE:=(Nt.out.rX 10 (.int .i64 ((s3.taken:Int)+(au x:Nat))) (st':= {s3 with out:=s3.out++ [x],taken:=s3.taken+au x}) (by simp[fV]) rfl rfl).drew;have VD:=(NK.out.far Nt.out.gd (fun e=>Nt.out.blk.off NK.out.blk (by decide) e) 10 (.int .i64 ((s3.taken:Int)+(au x:Nat)))).drew;have hk10:=(YW.out.step ((Kept.refl (fun k _=>D9 k) w9).setCell (p:=⟨g,10,none⟩) (fun _ _=>Nt.out.gd) (.int .i64 ((s3.taken:Int)+(au x:Nat)))) HD9.out).drew;have aaH:=(V4.out.far (p:=⟨g,10,none⟩) (fun e=>V4.out.off Nt.out.blk (by decide) e) (.int .i64 ((s3.taken:Int)+(au x:Nat)))).drew;have tF:=ah VE;have Qj:=ah VD;have Zk:=ah hk10;have JM:=ah aaH;clear hsm QB VE VD hk10 aaH
     go_region
     generalize (w9.setCell ⟨g,10,none⟩ (.int .i64 ((s3.taken:Int)+(au x:Nat)))).drew=WX at*;clear KQ e10 p8;have y13:=tF.out.blk.cell 13;have Jg:=tF.out.blk.cell 14;have e13:=tF.out.blk.frozen 13;have e14:=tF.out.blk.frozen 14;have p8:=Qj.out.blk.cell 8;simp[fV] at y13 Jg;simp[My] at p8;go_wp2_with fail;go_cut [] from 73 to 92 (fun wx=>wx=((WX.setCell ⟨g,13,none⟩ (.int .i64 ((s3.fG:Int)+1))).setCell ⟨g,14,none⟩ (.int .i64 ((s3.bytes:Int)+(au x:Nat)))).drew)
     case first=>
      clear tF Qj Zk JM Nt HD9 HF9 YW NK V4 Vq V2 adb MU ada ac9 Xl hbx On Yh DR Qh VB zw Zf HRR IP zP Zg QO Jh KI HS Zi Zj HXS HX HXA Zd Ze ac5 Gn Q7 Zc HGB Cg HI3 HB3 Xo qR HD3 PS ac0 PV Co HKK xN HEX HR HF Jk HI1 HT Ol HB1 yh HH uy;generalize au x=sz at*;refine wp_region_noPanic ?_;refine bX (fun w'=>w'.cell? ⟨g,13,none⟩=some (.int .i64 (s3.fG:Nat))/\w'.cell? ⟨g,14,none⟩=some (.int .i64 (s3.bytes:Nat))/\w'.cell? ⟨p,8,none⟩=some (.int .i64 (sz:Nat))) [18,21] (by kernel_rfl) ?_;have hHeld:WX.drew.cell? ⟨g,13,none⟩=some (.int .i64 (s3.fG:Nat))/\WX.drew.cell? ⟨g,14,none⟩=some (.int .i64 (s3.bytes:Nat))/\WX.drew.cell? ⟨p,8,none⟩=some (.int .i64 (sz:Nat)):=⟨y13,Jg,p8⟩;refine aW 0 ?_;refine aW 1 ?_;refine aW 2 ?_;refine aW 3 ?_;refine aW 4 ?_;refine jq [18,21] 5 ?_;refine aW 6 ?_;refine aW 7 ?_;refine aW 8 ?_;refine aW 9 ?_;refine jq [18,21] 10 ?_;refine aW 11 ?_;refine aW 12 ?_;refine aW 13 ?_;refine jq [18,21] 14 ?_;refine aW 15 ?_;refine aW 16 ?_;refine aW 17 ?_;refine dB (i:=18) rfl (by kernel_rfl) (by kernel_rfl) (by rfl) (fun K hK=> ?_);go_simp;refine hK _ _ ?_;clear hK K
      try simp only[Act.put,gJ]
      refine xL 19 ?_;refine xL 20 ?_;refine dB (i:=21) rfl (by kernel_rfl) (by kernel_rfl) (by rfl) (fun K hK=> ?_);go_simp;refine hK _ _ ?_;clear hK K
      try simp only[Act.put,gJ]
      refine bW (by kernel_rfl) ?_ _;refine NoPanic.normal ?_;rw[iG ((s3.fG:Int)+1) (by omega),iG ((s3.bytes:Int)+(sz:Nat)) (by omega)];go_wp2_with fail;go_meet;rfl
     case rest=>
     subst hcut;have ahw:=((tF.out.rX 13 (.int .i64 ((s3.fG:Int)+1)) (st':= {s3 with out:=s3.out++ [x],taken:=s3.taken+au x,fG:=s3.fG+1}) (by simp[fV]) rfl rfl).rX 14 (.int .i64 ((s3.bytes:Int)+(au x:Nat))) (st':=cK s3 x) (by simp[fV,cK]) rfl rfl).drew;have ahx:=((Qj.out.far tF.out.gd (fun e=>tF.out.blk.off Qj.out.blk (by decide) e) 13 (.int .i64 ((s3.fG:Int)+1))).far tF.out.gd (fun e=>tF.out.blk.off Qj.out.blk (by decide) e) 14 (.int .i64 ((s3.bytes:Int)+(au x:Nat)))).drew;have ahy:=(Zk.out.step (((Kept.refl (fun k _=>D9 k) WX).setCell (p:=⟨g,13,none⟩) (fun _ _=>tF.out.gd) (.int .i64 ((s3.fG:Int)+1))).setCell (p:=⟨g,14,none⟩) (fun _ _=>tF.out.gd) (.int .i64 ((s3.bytes:Int)+(au x:Nat)))) HD9.out).drew;have aaI:=((JM.out.far (p:=⟨g,13,none⟩) (fun e=>JM.out.off tF.out.blk (by decide) e) (.int .i64 ((s3.fG:Int)+1))).far (p:=⟨g,14,none⟩) (fun e=>JM.out.off tF.out.blk (by decide) e) (.int .i64 ((s3.bytes:Int)+(au x:Nat)))).drew;have Lj:=ah ahw;have Iq:=ah ahx;have Zl:=ah ahy;have Rj:=ah aaI;clear ahw ahx ahy aaI y13 Jg e13 e14 p8 hts;generalize (((WX.setCell ⟨g,13,none⟩ (.int .i64 ((s3.fG:Int)+1))).setCell ⟨g,14,none⟩ (.int .i64 ((s3.bytes:Int)+(au x:Nat)))).drew)=Gr at*;go_wp2_with fail;have ama:=zP.out;have QB:=HB3.out.held;have Ns:aH (cK s3 x)<=1048576:=QB;have hol:(cK s3 x).out.length<=512:=by
      show (s3.out++ [x]).length<=512
      rw[l8];simp;omega
     have hf1:(cK s3 x).first<1024:=Qf
     obtain ⟨b,hb⟩:∃b,b=dF c (cK s3 x):=⟨_,rfl⟩
     have V5:x.sn=dM s3:=V2.out.2.2.2;have hfi:=lS Lj.out.drew Ns hol hf1 x.sn false false false 0 x.s x.e Ap x.ps.length cp vl9 x.ps (fun w' hk=>Iq.out.drew.Pg Lj.out.drew.lt hk) (pM IP.out) (by omega) b;rw[V5] at hfi;have SY:Calls prog 89 #[.pointer (some g),.agg #[.int .i64 (dM s3:Nat),.bool false,.bool false,.bool false,.int .i64 0,.bool x.s,.bool x.e,.slice Ap x.ps.length cp],.bool b] Gr.drew (Ky Gr.drew D9 F9 g c (aG c (cK s3 x) b).1 (qO (dM s3) (aG c (cK s3 x) b).2 false false 0 x.s x.e x.ps)):=hfi;have MN:=ah SY;have ata:w.heap.size≠g:=fun e=>Rj.out.off Lj.out.blk (by decide) e
     have hzz:=qR.out.size;have amb:¬D9 w.heap.size:=fun hd=>by
      rcases HD9.out _ hd with e|e
      ·rcases HD3.out _ e with e|e
       ·exact hDn e
       ·omega
      ·omega
     have y0:=Lj.out.blk.cell 0;have y1:=Lj.out.blk.cell 1;have y13:=Lj.out.blk.cell 13;have Jg:=Lj.out.blk.cell 14;simp[fV,cK] at y0 y1 y13 Jg;obtain ⟨p0,p7,p8,p9,p10,p11⟩:=Iq.out.cells;obtain ⟨p1,p2,p3,p4,p5,p6⟩:=(show Gr.cell? ⟨p,1,none⟩=some (.bool false)/\Gr.cell? ⟨p,2,none⟩=some (.bool false)/\Gr.cell? ⟨p,3,none⟩=some (.bool false)/\Gr.cell? ⟨p,4,none⟩=some (.int .i64 0)/\Gr.cell? ⟨p,5,none⟩=some (.bool x.s)/\Gr.cell? ⟨p,6,none⟩=some (.bool x.e) from
      ⟨Iq.out.blk.cell 1,Iq.out.blk.cell 2,Iq.out.blk.cell 3,Iq.out.blk.cell 4,Iq.out.blk.cell 5,Iq.out.blk.cell 6⟩)
     rw[V5] at p0;have HB:=ah hb;have HHD:=ah Ns;clear hfi SY Ns hol hf1 V5 hb ama QB p8 p9 p10 p11;go_cut [6] from 93 to 136 (fun s6 wx=>∃W',wx=W'.setCell w (.int .i64 0)/\W'.ownsRow Gr 5 1 s6 (qO (dM s3) (aG c (cK s3 x) b).2 false false 0 x.s x.e x.ps).length (dz (qO (dM s3) (aG c (cK s3 x) b).2 false false 0 x.s x.e x.ps))/\pK Gr.drew D9 F9 g c (aG c (cK s3 x) b).1 W')
     case first=>
      have hbb:=HB.out;unfold dF at hbb;have e1:((cK s3 x).fG:Int)=(s3.fG:Int)+1:=by simp[cK]
      have e2:((cK s3 x).bytes:Int)=(s3.bytes:Int)+(au x:Nat):=by simp[cK]
      rw[e1,e2] at hbb;clear e1 e2;have Ol:=ah Rj.out;have TG:=ah amb;clear Lj Iq Zl Rj tF Qj Zk JM Nt HD9 HF9 YW NK V4 Vq V2 adb MU ada ac9 Xl hbx On Yh DR Qh VB zw Zf HRR IP zP Zg QO Jh KI HS Zi Zj HXS HX HXA Zd Ze ac5 Gn Q7 Zc HGB Cg HI3 HB3 Xo qR HD3 PS ac0 PV Co HKK xN HEX HR HF Jk HI1 HT HB1 yh HH uy HB HHD;have hHeld:=(show Gr.drew.cell? g=some (.int .i64 c.Oh)/\Gr.drew.cell? ⟨g,1,none⟩=some (.int .i64 c.byte)/\Gr.drew.cell? ⟨g,13,none⟩=some (.int .i64 ((s3.fG:Int)+1))/\Gr.drew.cell? ⟨g,14,none⟩=some (.int .i64 ((s3.bytes:Int)+(au x:Nat)))/\Gr.drew.cell? ⟨p,0,none⟩=some (.int .i64 (dM s3:Nat))/\Gr.drew.cell? ⟨p,1,none⟩=some (.bool false)/\Gr.drew.cell? ⟨p,2,none⟩=some (.bool false)/\Gr.drew.cell? ⟨p,3,none⟩=some (.bool false)/\Gr.drew.cell? ⟨p,4,none⟩=some (.int .i64 0)/\Gr.drew.cell? ⟨p,5,none⟩=some (.bool x.s)/\Gr.drew.cell? ⟨p,6,none⟩=some (.bool x.e)/\Gr.drew.cell? ⟨p,7,none⟩=some (.slice Ap x.ps.length cp) from ⟨y0,y1,y13,Jg,p0,p1,p2,p3,p4,p5,p6,p7⟩);clear y0 y1 y13 Jg p0 p1 p2 p3 p4 p5 p6 p7;obtain ⟨bA,d1⟩:∃q,decide (0<c.Oh)=q:=⟨_,rfl⟩
      obtain ⟨bE,d2⟩:∃q,decide (c.Oh<=(s3.fG:Int)+1)=q:=⟨_,rfl⟩
      obtain ⟨bB,d3⟩:∃q,decide (0<c.byte)=q:=⟨_,rfl⟩
      obtain ⟨bC,d4⟩:∃q,decide (c.byte<=(s3.bytes:Int)+(au x:Nat))=q:=⟨_,rfl⟩
      rw[d1,d2,d3,d4] at hbb;obtain ⟨pq,hpq⟩:∃q,(bA&&bE)=q:=⟨_,rfl⟩
      obtain ⟨q2,hq2⟩:∃q,(bB&&bC)=q:=⟨_,rfl⟩
      rw[hpq,hq2] at hbb;have HPQ:=ah hpq;have HQ2:=ah hq2;have Vd:=ah hbb;clear hpq hq2 hbb;refine wp_region_noPanic ?_;refine bX (fun w'=>w'.cell? g=some (.int .i64 c.Oh)/\w'.cell? ⟨g,1,none⟩=some (.int .i64 c.byte)/\w'.cell? ⟨g,13,none⟩=some (.int .i64 ((s3.fG:Int)+1))/\w'.cell? ⟨g,14,none⟩=some (.int .i64 ((s3.bytes:Int)+(au x:Nat)))/\w'.cell? ⟨p,0,none⟩=some (.int .i64 (dM s3:Nat))/\w'.cell? ⟨p,1,none⟩=some (.bool false)/\w'.cell? ⟨p,2,none⟩=some (.bool false)/\w'.cell? ⟨p,3,none⟩=some (.bool false)/\w'.cell? ⟨p,4,none⟩=some (.int .i64 0)/\w'.cell? ⟨p,5,none⟩=some (.bool x.s)/\w'.cell? ⟨p,6,none⟩=some (.bool x.e)/\w'.cell? ⟨p,7,none⟩=some (.slice Ap x.ps.length cp)) [43] (by kernel_rfl) ?_;refine aW 0 ?_;refine aW 1 ?_;refine aW 2 ?_;refine aW 3 ?_;refine jq [43] 4 ?_;refine aW 5 ?_;refine aW 6 ?_;refine aW 7 ?_;refine aW 8 ?_;refine jq [43,42,23,22,11,10] 9 ?_;refine Da 10 (.bool bA) rfl (Or.inl ⟨by rfl,?_⟩) hHeld ?_
      ·intro w' hSw;go_simp
       try with_reducible rfl
      try simp only[Act.put,gJ]
      refine aW 11 ?_;refine Da 12 (cond bA (.pointer (some g)) undef) rfl (YieldsIf.guard bA (fun hb=> ?_) (fun hb=> ?_)) hHeld ?_
      ·subst hb;refine Or.inl ⟨by rfl,?_⟩;intro w' hSw
       try simp only[kY]
       go_simp
       try with_reducible rfl
      ·subst hb;rfl
      try simp only[Act.put,gJ]
      refine Da 13 (cond bA (.pointer (some g)) undef) rfl (YieldsIf.guard bA (fun hb=> ?_) (fun hb=> ?_)) hHeld ?_
      ·subst hb;refine Or.inl ⟨by rfl,?_⟩;intro w' hSw
       try simp only[kY]
       go_simp
       try with_reducible rfl
      ·subst hb;rfl
      try simp only[Act.put,gJ]
      refine Da 14 (cond bA (.pointer (some ⟨g,13,none⟩)) undef) rfl (YieldsIf.guard bA (fun hb=> ?_) (fun hb=> ?_)) hHeld ?_
      ·subst hb;refine Or.inl ⟨by rfl,?_⟩;intro w' hSw
       try simp only[kY]
       go_simp
       try with_reducible rfl
      ·subst hb;rfl
      try simp only[Act.put,gJ]
      refine tkX [43,42,23,22,21] 15 (cond bA (.int .i64 ((s3.fG:Int)+1)) undef) rfl (YieldsIf.guard bA (fun hb=> ?_) (fun hb=> ?_)) hHeld ?_
      ·subst hb;refine Or.inl ⟨by rfl,?_⟩;intro w' hSw;obtain ⟨hS1,hS2,DD,hS4,hS5,hS6,hS7,hS8,hS9,Lf,Zm,Zn⟩:=hSw
       try simp only[kY]
       go_simp
       try with_reducible rfl
      ·subst hb;rfl
      try simp only[Act.put,gJ]
      refine Da 16 (cond bA (.pointer (some g)) undef) rfl (YieldsIf.guard bA (fun hb=> ?_) (fun hb=> ?_)) hHeld ?_
      ·subst hb;refine Or.inl ⟨by rfl,?_⟩;intro w' hSw
       try simp only[kY]
       go_simp
       try with_reducible rfl
      ·subst hb;rfl
      try simp only[Act.put,gJ]
      refine Da 17 (cond bA (.pointer (some g)) undef) rfl (YieldsIf.guard bA (fun hb=> ?_) (fun hb=> ?_)) hHeld ?_
      ·subst hb;refine Or.inl ⟨by rfl,?_⟩;intro w' hSw
       try simp only[kY]
       go_simp
       try with_reducible rfl
      ·subst hb;rfl
      try simp only[Act.put,gJ]
      refine Da 18 (cond bA (.pointer (some g)) undef) rfl (YieldsIf.guard bA (fun hb=> ?_) (fun hb=> ?_)) hHeld ?_
      ·subst hb;refine Or.inl ⟨by rfl,?_⟩;intro w' hSw
       try simp only[kY]
       go_simp
       try with_reducible rfl
      ·subst hb;rfl
      try simp only[Act.put,gJ]
      refine Da 19 (cond bA (.pointer (some g)) undef) rfl (YieldsIf.guard bA (fun hb=> ?_) (fun hb=> ?_)) hHeld ?_
      ·subst hb;refine Or.inl ⟨by rfl,?_⟩;intro w' hSw
       try simp only[kY]
       go_simp
       try with_reducible rfl
      ·subst hb;rfl
      try simp only[Act.put,gJ]
      refine tkX [43,42,23,22,21] 20 (cond bA c.Oh undef) rfl (YieldsIf.guard bA (fun hb=> ?_) (fun hb=> ?_)) hHeld ?_
      ·subst hb;refine Or.inl ⟨by rfl,?_⟩;intro w' hSw;obtain ⟨hS1,hS2,DD,hS4,hS5,hS6,hS7,hS8,hS9,Lf,Zm,Zn⟩:=hSw
       try simp only[kY]
       go_simp
       try with_reducible rfl
      ·subst hb;rfl
      try simp only[Act.put,gJ]
      refine Da 21 (cond bA (.bool bE) undef) rfl (YieldsIf.guard bA (fun hb=> ?_) (fun hb=> ?_)) hHeld ?_
      ·subst hb;refine Or.inl ⟨by rfl,?_⟩;intro w' hSw
       try simp only[kY]
       go_simp
       try with_reducible rfl
      ·subst hb;rfl
      try simp only[Act.put,gJ]
      refine Da 22 (.bool pq) rfl (Or.inl ⟨by rfl,?_⟩) hHeld ?_
      ·intro w' hSw;have hq:=HPQ.out;cases bA with
       |false=>
        have hq':pq=false:=by rw[<-hq];rfl
        subst hq';clear hq;simp only[cond_false];go_simp
       |true=>
        have hq':bE=pq:=by rw[<-hq];rfl
        subst hq';clear hq;simp only[kY];go_simp
      try simp only[Act.put,gJ]
      refine aW 23 ?_;refine Da 24 (cond (!pq) (.pointer (some g)) undef) rfl (YieldsIf.guard (!pq) (fun hb=> ?_) (fun hb=> ?_)) hHeld ?_
      ·have hb1:pq=false:=by simpa using hb
       subst hb1;refine Or.inl ⟨by rfl,?_⟩;intro w' hSw
       try simp only[qK,kY]
       go_simp
       try with_reducible rfl
      ·have hb1:pq=true:=by simpa using hb
       subst hb1;rfl
      try simp only[Act.put,gJ]
      refine Da 25 (cond (!pq) (.pointer (some g)) undef) rfl (YieldsIf.guard (!pq) (fun hb=> ?_) (fun hb=> ?_)) hHeld ?_
      ·have hb1:pq=false:=by simpa using hb
       subst hb1;refine Or.inl ⟨by rfl,?_⟩;intro w' hSw
       try simp only[qK,kY]
       go_simp
       try with_reducible rfl
      ·have hb1:pq=true:=by simpa using hb
       subst hb1;rfl
      try simp only[Act.put,gJ]
      refine Da 26 (cond (!pq) (.pointer (some g)) undef) rfl (YieldsIf.guard (!pq) (fun hb=> ?_) (fun hb=> ?_)) hHeld ?_
      ·have hb1:pq=false:=by simpa using hb
       subst hb1;refine Or.inl ⟨by rfl,?_⟩;intro w' hSw
       try simp only[qK,kY]
       go_simp
       try with_reducible rfl
      ·have hb1:pq=true:=by simpa using hb
       subst hb1;rfl
      try simp only[Act.put,gJ]
      refine Da 27 (cond (!pq) (.pointer (some ⟨g,1,none⟩)) undef) rfl (YieldsIf.guard (!pq) (fun hb=> ?_) (fun hb=> ?_)) hHeld ?_
      ·have hb1:pq=false:=by simpa using hb
       subst hb1;refine Or.inl ⟨by rfl,?_⟩;intro w' hSw
       try simp only[qK,kY]
       go_simp
       try with_reducible rfl
      ·have hb1:pq=true:=by simpa using hb
       subst hb1;rfl
      try simp only[Act.put,gJ]
      refine tkX [43,42,41,30,29] 28 (cond (!pq) c.byte undef) rfl (YieldsIf.guard (!pq) (fun hb=> ?_) (fun hb=> ?_)) hHeld ?_
      ·have hb1:pq=false:=by simpa using hb
       subst hb1;refine Or.inl ⟨by rfl,?_⟩;intro w' hSw;obtain ⟨hS1,hS2,DD,hS4,hS5,hS6,hS7,hS8,hS9,Lf,Zm,Zn⟩:=hSw
       try simp only[qK,kY]
       go_simp
       try with_reducible rfl
      ·have hb1:pq=true:=by simpa using hb
       subst hb1;rfl
      try simp only[Act.put,gJ]
      refine Da 29 (cond (!pq) (.bool bB) undef) rfl (YieldsIf.guard (!pq) (fun hb=> ?_) (fun hb=> ?_)) hHeld ?_
      ·have hb1:pq=false:=by simpa using hb
       subst hb1;refine Or.inl ⟨by rfl,?_⟩;intro w' hSw
       try simp only[qK,kY]
       go_simp
       try with_reducible rfl
      ·have hb1:pq=true:=by simpa using hb
       subst hb1;rfl
      try simp only[Act.put,gJ]
      refine Da 30 (cond (!pq) (.bool bB) undef) rfl (YieldsIf.guard (!pq) (fun hb=> ?_) (fun hb=> ?_)) hHeld ?_
      ·have hb1:pq=false:=by simpa using hb
       subst hb1;refine Or.inl ⟨by rfl,?_⟩;intro w' hSw
       try simp only[qK,kY]
       go_simp
       try with_reducible rfl
      ·have hb1:pq=true:=by simpa using hb
       subst hb1;rfl
      try simp only[Act.put,gJ]
      refine Da 31 (cond (!pq&&bB) (.pointer (some g)) undef) rfl (YieldsIf.guard (!pq&&bB) (fun hb=> ?_) (fun hb=> ?_)) hHeld ?_
      ·obtain ⟨hb1,rfl⟩:pq=false/\bB=true:=by simpa using hb
       subst hb1;refine Or.inl ⟨by rfl,?_⟩;intro w' hSw
       try simp only[qK,kY]
       go_simp
       try with_reducible rfl
      ·cases pq<;>cases bB<;>first|rfl|(cases hb)
      try simp only[Act.put,gJ]
      refine Da 32 (cond (!pq&&bB) (.pointer (some g)) undef) rfl (YieldsIf.guard (!pq&&bB) (fun hb=> ?_) (fun hb=> ?_)) hHeld ?_
      ·obtain ⟨hb1,rfl⟩:pq=false/\bB=true:=by simpa using hb
       subst hb1;refine Or.inl ⟨by rfl,?_⟩;intro w' hSw
       try simp only[qK,xQ,kY]
       go_simp
       try with_reducible rfl
      ·cases pq<;>cases bB<;>first|rfl|(cases hb)
      try simp only[Act.put,gJ]
      refine Da 33 (cond (!pq&&bB) (.pointer (some ⟨g,14,none⟩)) undef) rfl (YieldsIf.guard (!pq&&bB) (fun hb=> ?_) (fun hb=> ?_)) hHeld ?_
      ·obtain ⟨hb1,rfl⟩:pq=false/\bB=true:=by simpa using hb
       subst hb1;refine Or.inl ⟨by rfl,?_⟩;intro w' hSw
       try simp only[qK,xQ,kY]
       go_simp
       try with_reducible rfl
      ·cases pq<;>cases bB<;>first|rfl|(cases hb)
      try simp only[Act.put,gJ]
      refine tkX [43,42,41,40] 34 (cond (!pq&&bB) (.int .i64 ((s3.bytes:Int)+(au x:Nat))) undef) rfl (YieldsIf.guard (!pq&&bB) (fun hb=> ?_) (fun hb=> ?_)) hHeld ?_
      ·obtain ⟨hb1,rfl⟩:pq=false/\bB=true:=by simpa using hb
       subst hb1;refine Or.inl ⟨by rfl,?_⟩;intro w' hSw;obtain ⟨hS1,hS2,DD,hS4,hS5,hS6,hS7,hS8,hS9,Lf,Zm,Zn⟩:=hSw
       try simp only[qK,xQ,kY]
       go_simp
       try with_reducible rfl
      ·cases pq<;>cases bB<;>first|rfl|(cases hb)
      try simp only[Act.put,gJ]
      refine Da 35 (cond (!pq&&bB) (.pointer (some g)) undef) rfl (YieldsIf.guard (!pq&&bB) (fun hb=> ?_) (fun hb=> ?_)) hHeld ?_
      ·obtain ⟨hb1,rfl⟩:pq=false/\bB=true:=by simpa using hb
       subst hb1;refine Or.inl ⟨by rfl,?_⟩;intro w' hSw
       try simp only[qK,xQ,kY]
       go_simp
       try with_reducible rfl
      ·cases pq<;>cases bB<;>first|rfl|(cases hb)
      try simp only[Act.put,gJ]
      refine Da 36 (cond (!pq&&bB) (.pointer (some g)) undef) rfl (YieldsIf.guard (!pq&&bB) (fun hb=> ?_) (fun hb=> ?_)) hHeld ?_
      ·obtain ⟨hb1,rfl⟩:pq=false/\bB=true:=by simpa using hb
       subst hb1;refine Or.inl ⟨by rfl,?_⟩;intro w' hSw
       try simp only[qK,xQ,kY]
       go_simp
       try with_reducible rfl
      ·cases pq<;>cases bB<;>first|rfl|(cases hb)
      try simp only[Act.put,gJ]
      refine Da 37 (cond (!pq&&bB) (.pointer (some g)) undef) rfl (YieldsIf.guard (!pq&&bB) (fun hb=> ?_) (fun hb=> ?_)) hHeld ?_
      ·obtain ⟨hb1,rfl⟩:pq=false/\bB=true:=by simpa using hb
       subst hb1;refine Or.inl ⟨by rfl,?_⟩;intro w' hSw
       try simp only[qK,xQ,kY]
       go_simp
       try with_reducible rfl
      ·cases pq<;>cases bB<;>first|rfl|(cases hb)
      try simp only[Act.put,gJ]
      refine Da 38 (cond (!pq&&bB) (.pointer (some ⟨g,1,none⟩)) undef) rfl (YieldsIf.guard (!pq&&bB) (fun hb=> ?_) (fun hb=> ?_)) hHeld ?_
      ·obtain ⟨hb1,rfl⟩:pq=false/\bB=true:=by simpa using hb
       subst hb1;refine Or.inl ⟨by rfl,?_⟩;intro w' hSw
       try simp only[qK,xQ,kY]
       go_simp
       try with_reducible rfl
      ·cases pq<;>cases bB<;>first|rfl|(cases hb)
      try simp only[Act.put,gJ]
      refine tkX [43,42,41,40] 39 (cond (!pq&&bB) c.byte undef) rfl (YieldsIf.guard (!pq&&bB) (fun hb=> ?_) (fun hb=> ?_)) hHeld ?_
      ·obtain ⟨hb1,rfl⟩:pq=false/\bB=true:=by simpa using hb
       subst hb1;refine Or.inl ⟨by rfl,?_⟩;intro w' hSw;obtain ⟨hS1,hS2,DD,hS4,hS5,hS6,hS7,hS8,hS9,Lf,Zm,Zn⟩:=hSw
       try simp only[qK,xQ,kY]
       go_simp
       try with_reducible rfl
      ·cases pq<;>cases bB<;>first|rfl|(cases hb)
      try simp only[Act.put,gJ]
      refine Da 40 (cond (!pq&&bB) (.bool bC) undef) rfl (YieldsIf.guard (!pq&&bB) (fun hb=> ?_) (fun hb=> ?_)) hHeld ?_
      ·obtain ⟨hb1,rfl⟩:pq=false/\bB=true:=by simpa using hb
       subst hb1;refine Or.inl ⟨by rfl,?_⟩;intro w' hSw
       try simp only[qK,xQ,kY]
       go_simp
       try with_reducible rfl
      ·cases pq<;>cases bB<;>first|rfl|(cases hb)
      try simp only[Act.put,gJ]
      refine Da 41 (cond (!pq) (.bool q2) undef) rfl (YieldsIf.guard (!pq) (fun hb=> ?_) (fun hb=> ?_)) hHeld ?_
      ·have hb1:pq=false:=by simpa using hb
       subst hb1;refine Or.inl ⟨by rfl,?_⟩;intro w' hSw;have hq:=HQ2.out;cases bB with
       |false=>
        have hq':q2=false:=by rw[<-hq];rfl
        subst hq';clear hq;simp only[qK,Bool.and_false,kY,cond_false];go_simp
       |true=>
        have hq':bC=q2:=by rw[<-hq];rfl
        subst hq';clear hq;simp only[qK,xQ,kY];go_simp
      ·have hb1:pq=true:=by simpa using hb
       subst hb1;rfl
      try simp only[Act.put,gJ]
      refine Da 42 (.bool b) rfl (Or.inl ⟨by rfl,?_⟩) hHeld ?_
      ·intro w' hSw;have hq:=Vd.out;cases pq with
       |false=>
        have hq':b=q2:=by rw[hq];rfl
        subst hq';clear hq;simp only[qK,kY];go_simp
       |true=>
        have hq':b=true:=by rw[hq];rfl
        subst hq';clear hq;simp only[Bool.not_true,cond_false];go_simp
      try simp only[Act.put,gJ]
      refine dB (i:=43) rfl (by kernel_rfl) (by kernel_rfl) (by rfl) (fun K hK=> ?_);go_simp;refine (MN.out).mono ?_;rintro e7 w7 ⟨v7,rfl,hv7,QT⟩;refine hK _ _ ?_;clear hK K
      try simp only[Act.put,gJ]
      refine xL 44 ?_;have q45:=(Ol.out.drew.kept QT.kept TG.out).cell 0;have r45:=(Ol.out.drew.kept QT.kept TG.out).frozen 0;simp only[nW,oH] at q45;refine dB (i:=45) rfl (by kernel_rfl) (by kernel_rfl) (by rfl) (fun K hK=> ?_);go_simp;refine hK _ _ ?_;clear hK K
      try simp only[Act.put,gJ]
      refine bW (by kernel_rfl) ?_ _;refine NoPanic.normal ?_;go_wp2_with fail;go_meet;exact ⟨w7,rfl,hv7,QT⟩
     case rest=>
     obtain ⟨W',rfl,ahz,ahA⟩:=hcut;have Oj:pK w2 D F g c (aG c (cK s3 x) b).1 W':=pK.step qR.out HD3.out PS.out (pK.step Zl.out.drew HD9.out HF9.out ahA);have V5:x.sn=dM s3:=V2.out.2.2.2;have hbq:=HB.out;have hRr:=HRR.out;rw[<-hbq,V5] at hRr;have adg:w2.heap.size<=Gr.heap.size:=gG qR.out.size Zl.out.size;obtain ⟨q9,VZ⟩:=Lh (R:=R) (bs:=qO (dM s3) (aG c (cK s3 x) b).2 false false 0 x.s x.e x.ps) HKK.out xN.out (aL) hDn HH.out.lt HH.out.sub Oj (bF ahz adg) (by rw[<-hRr]) (by rw[<-hRr];rfl) (by rw[<-hRr]);have Qg:=ah VZ;have HQ9:=ah q9;clear Lj Iq Zl Rj tF Qj Zk JM Nt HD9 HF9 YW NK V4 Vq V2 adb MU ada ac9 Xl hbx On Yh DR Qh VB zw Zf HRR IP zP Zg QO Jh KI HS Zi Zj HXS HX HXA Zd Ze ac5 Gn Q7 Zc HGB Cg HI3 HB3 Xo qR HD3 PS ac0 PV Co HKK xN HEX HR HF Jk HI1 HT Ol HB1 yh HH uy HB HHD MN ahz ahA Oj hRr VZ q9 hbq y0 y1 y13 Jg p0 p1 p2 p3 p4 p5 p6 p7;generalize qO (dM s3) (aG c (cK s3 x) b).2 false false 0 x.s x.e x.ps=bsx at*;go_wp2;refine nD (f:=76) (args:= #[.pointer (some w)]) (by simp) (by simp[go_sem]) ?_;refine (iw _ _).mono ?_;rintro e9 u9 w9 ⟨rfl,rfl,rfl⟩;have q:=HQ9.out;exact ⟨.tuple #[_,.int .i64 0],by simp[results,results55,go_sem,q],Qg.out⟩
 ·have tX:=xN.out.kept hO3.kept hDn;have Vw:=ah hO3;have Co:=ah tX;have hRr:=HR.out;rw[NJ HF.out hn hf3] at hRr;have PV:=ah hRr;clear tX hO3 hf3 hRr;go_wp2;refine nD (f:=76) (args:= #[.pointer (some w)]) (by simp) (by simp[go_sem]) ?_;refine (mR _ _ w3 Co.out).mono ?_;rintro e9 u9 w9 ⟨rfl,rfl,rfl⟩;have q:=((Co.out.alloc (.cells #[] 191)).ay 0 (.int .i64 8)).cell 0;simp at q;refine ⟨.tuple #[.slice none 0 0,.int .i64 8],by simp[results,results55,go_sem,q],?_⟩;rw[<-PV.out];refine Qc rfl rfl ?_;exact (Vw.out.alloc _).put HKK.out (aL) xN.out.lt HH.out.lt HH.out.sub 0 _
end
section
variable {D F:Nat->Prop} {g:Nat} {c:Cf} {st:Sd} {vq vo:Value} {vs os:List Value} {w:World}
def Vx (w:World) (D F:Nat->Prop) (g:Nat) (c:Cf) (R:Sd × Int) (e:Ending) (w':World):Prop:=e= .returned R.2/\pK w D F g c R.1 w'
theorem Ni (h:gu w D F g c st vq vs vo os) (ht:J9 c) (hsum:aH st<=1048576) (hql:st.queue.length<=1048576) {A:Option Addr} {n cc:Nat} {x:List UInt8} (hx:Sl w w A n cc (dz x)):
 Calls prog 58 #[.pointer (some g),.slice A n cc] w (Vx w D F g c (bV c st x)):=by
 have hch:=lu h ht.timer.1;have uy:=ah hch;have HH:=ah h;have hxl:x.length=n:=by have:=hx.len;simpa using this
 have hcap:=hx.cap;have hmx:=hx.mx;clear hch;cases hf:st.failed with
 |true=>
  rw[hf] at uy;have hfin:bV c st x=(st,8):=by unfold bV;rw[bD hf]
  rw[hfin];simp only[bD] at uy;clear h hf hfin;go_enter func58,ntmps58;go_wp2_with fail;refine uy.out.mono ?_;rintro e1 w1 ⟨rfl,rfl⟩;go_wp2;go_ret;exact ⟨rfl,HH.out.o (Kept.refl _ w)⟩
 |false=>
  rw[hf] at uy;simp only[mq,l7] at uy;by_cases h0:n=0
  ·have hfin:bV c st x=(st,2):=by unfold bV;rw[aP (by simp[hf]),bD (.inl (by omega))]
   rw[hfin];have d0:((n:Int)==0)=true:=by simp;omega
   have H0:=ah h0;clear h hf hfin h0 hx hxl;go_enter func58,ntmps58;go_wp2_with fail;refine uy.out.mono ?_;rintro e1 w1 ⟨rfl,rfl⟩;go_wp2;go_ret;exact ⟨rfl,HH.out.o (Kept.refl _ w)⟩
  have d0:((n:Int)==0)=false:=by simp;omega
  by_cases h9:9000<n
  ·have hfin:bV c st x=(st,2):=by unfold bV;rw[aP (by simp[hf]),bD (.inr (by omega))]
   rw[hfin];have d1:decide ((9000:Int)<n)=true:=by simp;omega
   clear h hf hfin hx hxl;go_enter func58,ntmps58;go_wp2_with fail;refine uy.out.mono ?_;rintro e1 w1 ⟨rfl,rfl⟩;go_wp2;go_ret;exact ⟨rfl,HH.out.o (Kept.refl _ w)⟩
  have d1:decide ((9000:Int)<n)=false:=by simp;omega
  have QB:=fun k=>Jc (h.drewN k) hsum
  have HHE:=ah QB;have y6:=h.blk.cell 6;simp[fV] at y6;by_cases hfu:c.cap<(aH st:Int)+(n:Int)
  ·have hfin:bV c st x=(st,7):=by unfold bV;rw[aP (by simp[hf]),aP (by omega),bD (by omega)]
   rw[hfin];have d2:decide (c.cap<(aH st:Int)+(n:Int))=true:=iK hfu;clear h hf hfin hx hxl QB;generalize aH st=H at*;have hwr:IntKind.i64.wrap ((H:Int)+n)=(H:Int)+n:=iG _ (by omega);go_enter func58,ntmps58;go_wp2_with fail;refine uy.out.mono ?_;rintro e1 w1 ⟨rfl,rfl⟩;go_wp2_with fail
   go_quiet ((go_at_call 102;exact ve ((HHE.out _).mono fun _ _ hh=>⟨hh.1,hh.2.symm⟩)))
   go_wp2;go_ret;exact ⟨rfl,(HH.out.o (Kept.refl _ w)).drewN _⟩
  ·have hfin:bV c st x=(dQ st x,0):=by unfold bV;rw[aP (by simp[hf]),aP (by omega),aP (by omega)]
   rw[hfin];have d2:decide (c.cap<(aH st:Int)+(n:Int))=false:=iP hfu;generalize aH st=H at*;have hwr:IntKind.i64.wrap ((H:Int)+n)=(H:Int)+n:=iG _ (by omega);obtain ⟨j0,hj0,hm0,hm1,hm2⟩:=vz uq;have hcl:=fun k=>pO A n cc x (w.drewN k) (hx.drewN k) (by omega)
   have yB:=ah hcl;have y7:=h.blk.cell 7;have f7:=h.blk.frozen 7;simp[fV] at y7;obtain ⟨Av,cv,rfl,hsv⟩:=h.qr.sl;have hgl:=h.blk.lt;clear h hf hfin QB hcl hsv;go_enter func58,ntmps58;go_wp2_with fail;refine uy.out.mono ?_;rintro e1 w1 ⟨rfl,rfl⟩;go_wp2_with fail
   go_quiet ((go_at_call 102;exact ve ((HHE.out _).mono fun _ _ hh=>⟨hh.1,hh.2.symm⟩)))
   go_wp2_with fail;have Nj:=HH.out.drewN (nq);have hk0:Kept (fun k _=>D k) w (w.drewN nq):=(Kept.refl _ w).jI nq;have hcl0:Calls prog 103 #[.slice A n cc] (w.drewN nq).drew (vV (w.drewN nq).heap.size 5 (w.drewN nq).drew n (dz x)):=yB.out (nq+1);have hz0:=ah (show (w.drewN nq).heap.size=w.heap.size from rfl);generalize w.drewN nq=w0 at*;have x0:=Nj.blk.cell 7;have f0:=Nj.blk.frozen 7;simp[fV] at x0;have acs:g<w0:=Nj.blk.lt;have HA0:=ah Nj;have alo:=ah hcl0;have HK0:=ah hk0;have HXL:=ah hxl;clear Nj hcl0 hk0 y6 y7 f7 hx yB HHE uy hxl
   go_region_law (first
    |((refine H8 (by rfl) _ _ 37 (by rfl) j0 (.slice none 0 0) 24 wE hj0 hm0 hm1 hm2 rfl (by rfl) ((HA0.out.qr.drew.below hb1 (aL)).alloc (.cells #[.slice A1 n c1] 31)) ⟨w1,0,none⟩ 1 (.slice A1 n c1) (by rfl) (World.news_of_block (Et w1 _) 0 _ rfl) rfl (by unfold maxLen;omega) (by omega) (by simp) ?_;intro v5 w5 hown5 dV hq5;obtain ⟨A5,c5,rfl,hs5⟩:=hown5.sl;have vI:=((HA0.out.blk.drew.below hb1 HA0.out.blk.lt).alloc (.cells #[.slice A1 n c1] 31)).grown dV (fun e=>((HA0.out.qr.drew.below hb1 (aL)).alloc (.cells #[.slice A1 n c1] 31)).Ca ((HA0.out.blk.drew.below hb1 HA0.out.blk.lt).alloc (.cells #[.slice A1 n c1] 31)) (by decide) e.symm);have q2:=vI.cell 7;have q3:=vI.frozen 7;simp[fV] at q2))
    |((go_simp;(with_reducible refine alo.out.mono ?_);rintro e1 w1 ⟨v1,rfl,hv1,hb1⟩;obtain ⟨A1,c1,rfl,hs1,_⟩:=aY hv1;have Vp:=(hb1.cell (p:=⟨g,7,none⟩) acs).trans x0;have acv:g<w1:=zD acs hb1.size;have asa:=(yx w1 (.cells #[.slice A1 n c1] 31) ⟨g,7,none⟩ acv).trans Vp;have f0':=(hb1.frozen (p:=⟨g,7,none⟩) acs).trans f0)))
   all_goals
    go_wp2;go_ret;have YP:=HXL.out;subst YP;exact ⟨rfl,pK.step (HK0.out.jI 1) (dU.refl _ _) (dU.refl _ _) (gu.iY (w:=w0.drewN 1) (HA0.out.drewN 1) (by omega) hb1 hv1 hown5 dV hq5)⟩
end
def wI (aA:Int) (acc:List Nk) (n:Nk):Bool:=decide (acc.length<512)&&(iq aA n&&(match acc.getLast? with|none=>true|some m=>jL aA m n))
def Ig (bs:List UInt8) (pos:Nat):Option (Nk × Bool × Nat):=
 if 8*bs.length<pos+12 then none
 else if val (ax bs (pos+11) 1)=1 then
  if 8*bs.length<pos+42 then none
  else some (⟨(val (ax bs pos 10):Nat),true,(val (ax bs (pos+12) 15):Nat),(val (ax bs (pos+27) 15):Nat)⟩,decide (val (ax bs (pos+10) 1)=1),pos+42)
 else some (⟨(val (ax bs pos 10):Nat),false,0,0⟩,decide (val (ax bs (pos+10) 1)=1),pos+12)
def qC (bs:List UInt8) (aA:Nat):Nat->Bool->Nat->List Nk->Sum Nat (List Nk × Nat)
 |_,false,pos,acc=> .inr (acc,pos)
 |0,true,_,_=> .inl 9
 |f+1,true,pos,acc=>match Ig bs pos with
  |none=> .inl 5
  |some (n,more,p)=>if wI aA acc n=true then qC bs aA f more p (acc++ [n]) else .inl 9
def FE (bs:List UInt8) (pos:Nat):Bool:=decide (8*bs.length-pos<8)&&decide (val (ax bs pos (nH pos))=0)
def mO (bs:List UInt8):Sum Nat (Nat × List Nk):=
 if 8*bs.length<15 then .inl 5
 else if val (ax bs 0 4)≠0 then .inl 9
 else match qC bs (val (ax bs 4 10)) 513 (decide (val (ax bs 14 1)=1)) 15 [] with
  | .inl e=> .inl e
  | .inr (l,pos)=>if FE bs pos=true then .inr (val (ax bs 4 10),l) else .inl 9
def wJ (more:Bool) (x:Nk):List Bool:=bitsOf x.sn.toNat 10++(bitsOf more.toNat 1++(bitsOf x.part.toNat 1++(if x.part=true then bitsOf x.fr.toNat 15++bitsOf x.lt.toNat 15 else [])))
def mY:List Nk->List Bool
 | []=> []
 |x::r=>wJ (decide (0<r.length)) x++mY r
theorem af2 (more:Bool) (x:Nk):aC (FD more x)=wJ more x:=by
 unfold FD wJ aC;cases x.part<;>simp
theorem QV (l:List Nk):∀k,k<=l.length->aC (lT l k)++mY (l.drop k)=mY l
 |0,_=>by simp[lT,aC]
 |k+1,h=>by
  have ih:=QV l k (by omega);rw[<-ih,lT,iN,af2,oJ]
  congr 1
  rw[List.drop_eq_getElem_cons (show k<l.length by omega),mY,gX (show k<l.length by omega)];simp only[Cy,kC];rw[show decide (k+1<l.length)=decide (0<l.length-(k+1)) from decide_eq_decide.2 (by omega)]
theorem QW (aA:Nat) (l:List Nk):qB aA l=pack (bitsOf 0 4++(bitsOf aA 10++(bitsOf (decide (0<l.length)).toNat 1++mY l))):=by
 have h:=QV l l.length (aL);rw[List.drop_length,mY,CB] at h;unfold qB;rw[iN,h];simp[aC]
theorem mid (a b c:List Bool) (X:List Bool) (p k:Nat) (hX:X=a++(b++c)) (hp:a.length=p) (hk:b.length=k):ax (pack X) p k=b:=by
 have:=iC a b c [] p k hp hk;rw[CB] at this;rw[hX];exact this
theorem MX (a S M Q R c:List Bool) (hS:S.length=10) (hM:M.length=1) (hQ:Q.length=1):
 ax (pack (a++(S++(M++(Q++(R++c)))))) a.length 10=S/\ax (pack (a++(S++(M++(Q++(R++c)))))) (a.length+10) 1=M/\ax (pack (a++(S++(M++(Q++(R++c)))))) (a.length+11) 1=Q:=
 ⟨mid a S _ _ _ _ rfl rfl hS,mid (a++S) M (Q++(R++c)) _ _ _ (by simp) (by simp[hS]) hM,mid (a++(S++M)) Q (R++c) _ _ _ (by simp) (by simp[hS,hM]) hQ⟩
theorem Yw {aA:Int} (a c:List Bool) (more:Bool) (x:Nk) (h:iq aA x=true):Ig (pack (a++(wJ more x++c))) a.length=some (x,more,a.length+(wJ more x).length):=by
 obtain ⟨sn,part,fr,lt⟩:=x;unfold iq at h;simp only[gD,gY] at h;obtain ⟨⟨h1,h2⟩,_,h3⟩:=h;obtain ⟨sn,rfl⟩:=GZ h1;have vS:val (bitsOf sn 10)=sn:=iB 10 sn (by simp;omega);have vM:decide (val (bitsOf more.toNat 1)=1)=more:=by cases more<;>rfl
 cases part with
 |false=>
  simp only[mq,l7,gD,gY] at h3;obtain ⟨rfl,rfl⟩:=h3;obtain ⟨e1,e2,e3⟩:=MX a (bitsOf sn 10) (bitsOf more.toNat 1) (bitsOf 0 1) [] c (by simp) (by simp) (by simp);have hX:a++(wJ more ⟨(sn:Nat),false,0,0⟩++c)=a++(bitsOf sn 10++(bitsOf more.toNat 1++(bitsOf 0 1++([]++c)))):=by simp[wJ]
  have hL:(wJ more ⟨(sn:Nat),false,0,0⟩).length=12:=by simp[wJ]
  rw[hX,hL];unfold Ig;rw[e1,e2,e3,vS,vM,aP (by simp[bI];omega),aP (by decide)]
 |true=>
  simp only[kE,gD,gY] at h3;obtain ⟨h4,h5,h6⟩:=h3;obtain ⟨fr,rfl⟩:=GZ h4;obtain ⟨lt,rfl⟩:=GZ (show 0<=lt by omega);have vF:val (bitsOf fr 15)=fr:=iB 15 fr (by simp;omega);have vL:val (bitsOf lt 15)=lt:=iB 15 lt (by simp;omega);obtain ⟨e1,e2,e3⟩:=MX a (bitsOf sn 10) (bitsOf more.toNat 1) (bitsOf 1 1) (bitsOf fr 15++bitsOf lt 15) c (by simp) (by simp) (by simp);have e4:=mid (a++(bitsOf sn 10++(bitsOf more.toNat 1++bitsOf 1 1))) (bitsOf fr 15) (bitsOf lt 15++c) (a++(bitsOf sn 10++(bitsOf more.toNat 1++(bitsOf 1 1++((bitsOf fr 15++bitsOf lt 15)++c))))) (a.length+12) 15 (by simp) (by simp) (by simp);have e5:=mid (a++(bitsOf sn 10++(bitsOf more.toNat 1++(bitsOf 1 1++bitsOf fr 15)))) (bitsOf lt 15) c (a++(bitsOf sn 10++(bitsOf more.toNat 1++(bitsOf 1 1++((bitsOf fr 15++bitsOf lt 15)++c))))) (a.length+27) 15 (by simp) (by simp) (by simp);have hX:a++(wJ more ⟨(sn:Nat),true,(fr:Nat),(lt:Nat)⟩++c)=a++(bitsOf sn 10++(bitsOf more.toNat 1++(bitsOf 1 1++((bitsOf fr 15++bitsOf lt 15)++c)))):=by simp[wJ]
  have hL:(wJ more ⟨(sn:Nat),true,(fr:Nat),(lt:Nat)⟩).length=42:=by simp[wJ]
  rw[hX,hL];unfold Ig;rw[e1,e2,e3,e4,e5,vS,vM,vF,vL,aP (by simp[bI];omega),bD (by decide),aP (by simp[bI];omega)]
theorem MY (aA:Nat) (c:List Bool):∀(r:List Nk) (a:List Bool) (f:Nat) (acc:List Nk),(∀k,UY aA (acc++r) k)->r.length<=f->acc.length+r.length<=512->
 qC (pack (a++(mY r++c))) aA f (decide (0<r.length)) a.length acc= .inr (acc++r,a.length+(mY r).length)
 | [],a,f,acc,_,_,_=>by cases f<;>simp[qC,mY]
 |x::r,a,f,acc,hk,hf,hl=>by
  obtain ⟨f,rfl⟩:∃g,f=g+1:=⟨f-1,by simp at hf;omega⟩
  obtain ⟨ha,hfo⟩:=hk acc.length x (by simp);have e:=Yw a (mY r++c) (decide (0<r.length)) x ha;have hn:wI aA acc x=true:=by
   unfold wI;rw[ha,iK (show acc.length<512 by simp at hl;omega)];simp only[Du];cases hg:acc.getLast? with
   |none=>rfl
   |some m=>
    have hp:0<acc.length:=by
     rcases acc with _|⟨y,t⟩
     ·simp at hg
     ·simp
    refine hfo m hp ?_;rw[mh (by omega),<-List.getLast?_eq_getElem?];exact hg
  have ih:=MY aA c r (a++wJ (decide (0<r.length)) x) f (acc++ [x]) (by simpa using hk) (by simp at hf;omega) (by simp at hl ⊢;omega);have hX:a++(mY (x::r)++c)=a++(wJ (decide (0<r.length)) x++(mY r++c)):=by simp[mY]
  rw[hX,show decide (0<(x::r).length)=true from rfl,qC,e];dsimp only;rw[bD hn];simp only[oJ,l8] at ih;rw[ih];simp[mY];omega
theorem Jq {aA:Nat} {l:List Nk} (hv:bO (aA:Nat) l=true):mO (qB aA l)= .inr (aA,l):=by
 unfold bO at hv;simp only[gD,gY] at hv;obtain ⟨⟨_,h1⟩,h2,h3⟩:=hv;have hk:=(lD (aA:Int) l).1 h3;have e:=MY aA [] l (bitsOf 0 4++(bitsOf aA 10++bitsOf (decide (0<l.length)).toNat 1)) 513 [] (by simpa using hk) (by omega) (by simpa using h2);simp only[CB,oJ,l8,rJ,pY] at e;have f0:=mid [] (bitsOf 0 4) (bitsOf aA 10++(bitsOf (decide (0<l.length)).toNat 1++mY l)) _ 0 4 rfl rfl (by simp);have f1:=mid (bitsOf 0 4) (bitsOf aA 10) (bitsOf (decide (0<l.length)).toNat 1++mY l) _ 4 10 rfl (by simp) (by simp);have f2:=mid (bitsOf 0 4++bitsOf aA 10) (bitsOf (decide (0<l.length)).toNat 1) (mY l) (bitsOf 0 4++(bitsOf aA 10++(bitsOf (decide (0<l.length)).toNat 1++mY l))) 14 1 (by simp) (by simp) (by simp);rw[pY] at f0;have va:val (bitsOf aA 10)=aA:=iB 10 aA (by simp;omega);have v0:val (bitsOf 0 4)=0:=rfl;have vm:decide (val (bitsOf (decide (0<l.length)).toNat 1)=1)=decide (0<l.length):=by cases decide (0<l.length)<;>rfl
 rw[QW];have hp:=uS (bitsOf 0 4++(bitsOf aA 10++(bitsOf (decide (0<l.length)).toNat 1++mY l))) [];rw[CB] at hp;have hlen:(bitsOf 0 4++(bitsOf aA 10++(bitsOf (decide (0<l.length)).toNat 1++mY l))).length=15+(mY l).length:=by simp;omega
 rw[hlen] at hp;unfold mO;rw[f0,f1,f2,va,v0,vm,aP (by simp[bI];omega),aP (by simp),e];dsimp only;have hend:FE (pack (bitsOf 0 4++(bitsOf aA 10++(bitsOf (decide (0<l.length)).toNat 1++mY l)))) (15+(mY l).length)=true:=by
  unfold FE;rw[hp,xX,ji,hlen];have hb:∀n:Nat,8*bI n-n<8:=fun n=>by unfold bI;omega
  rw[iK (hb _)];rfl
 rw[show 4+(10+1)+(mY l).length=15+(mY l).length by omega,bD hend]
structure CfR (c:Cf):Prop where
 r1:0<=c.reorder
 r2:c.reorder<=1048576
 p1:0<=c.cu
 p2:c.cu<=1048576
section
variable {w w':World} {T:Nat->Nat} {g M n:Nat} {c:Cf} {st:Rc} {vo:Value}
theorem fM.clock (ho:fM st) {now:Int} (hn:now<=9223372036854775807):fM (gP st now):=
 ⟨ho.n1,ho.n2,ho.n3,ho.n4,ho.m,ho.op,by have:=ho.t1;unfold gP;dsimp only;split<;>omega,by have:=ho.t2;unfold gP;dsimp only;split<;>omega⟩
theorem fM.waits (ho:fM st) (c:Cf):fM (jO c st):=⟨ho.n1,ho.n2,ho.n3,ho.n3,ho.m,ho.op,ho.t1,ho.t2⟩
theorem fM.fires (ho:fM st) (c:Cf):fM (rT c st):=by
 have h2:fM {st with status:=lN st.m 1024 st.gW,due:=true,ro:=false}:=⟨ho.n1,AY _ _ _ ho.n4,ho.n3,ho.n4,ho.m,ho.op,ho.t1,ho.t2⟩;unfold rT;dsimp only;split
 ·exact h2.waits c
 ·exact h2
theorem fM.goes (ho:fM st) (c:Cf) {now:Int} (hn:now<=9223372036854775807):fM (aM c st now):=by
 unfold aM;split
 ·exact ho.clock hn
 ·exact (ho.clock hn).fires c
theorem Cn (h:jo w T g M n c st vo) (ho:fM st) (hcf:CfR c) (now:Int) (hn:now<=9223372036854775807):
 Calls prog 80 #[.pointer (some g),now] w fun e w'=>e= .returned (.tuple #[])/\jo w' T g M n c (aM c st now) vo/\Kept (MT T) w w':=by
 have ht:∀o:Obj,MT T g o:=fun o=>by unfold MT;rw[h.tg];omega
 have HT:=ah ht;have HO:=ah (ho.clock hn);have HCF:=ah hcf;have HG:=ah (show aM c st now=if st.ro=false\/(gP st now).now<st.exp then gP st now else rT c (gP st now) from rfl);have Xi:=(h.cells).2.2.2.2.2.2.2.2.2.2.2.1;have f16:=h.blk.frozen 16;have HH:=ah h;clear h ho hcf ht;go_enter func80,ntmps80;go_upto_region 1 with (fail)
 have h1:=HH.out.put 16 (.int .i64 (if st.now<now then now else st.now)) (st':=gP st now) rfl rfl rfl;have hk1:Kept (MT T) w (w.setCell ⟨g,16,none⟩ (.int .i64 (if st.now<now then now else st.now))):=(Kept.refl _ w).setCell (p:=⟨g,16,none⟩) (fun o _=>HT.out o) _;generalize w.setCell ⟨g,16,none⟩ (.int .i64 (if st.now<now then now else st.now))=wc at*;generalize (if st.now<now then now else st.now)=nv at*;have hro:(gP st now).ro=st.ro:=rfl;have Ng:(gP st now).exp=st.exp:=rfl;rw[<-hro,<-Ng] at HG;clear hro Ng Xi f16 HH;generalize gP st now=s1 at*;obtain ⟨x3,x4,x7,x8,x9,x10,Cb,MC,Xh,Js,Yz,Xi,U3,x18⟩:=h1.cells;have H1:=ah h1;have HK:=ah hk1;clear h1 hk1 x4 x7 x8 x9 x10 Js Yz U3 x18;cases hro:s1.ro with
 |false=>
  rw[hro] at Cb;have hg:=HG.out;rw[bD (.inl hro)] at hg;have Vq:=ah hg;clear hg hro;go_wp2_with fail
  go_quiet (fail)
  go_wp2_with fail;refine oZ (zJ rfl _ _ _) rfl ?_;rw[Vq.out];exact ⟨rfl,H1.out.drewN nq,HK.out.drewN nq⟩
 |true=>
  rw[hro] at Cb;by_cases hlt:s1.now<s1.exp
  ·have hg:=HG.out;rw[bD (.inr hlt)] at hg;have d1:decide (s1.now<s1.exp)=true:=by simpa using hlt
   have Vq:=ah hg;clear hg hro;go_wp2_with fail
   go_quiet (fail)
   go_wp2_with fail;refine oZ (zJ rfl _ _ _) rfl ?_;rw[Vq.out];exact ⟨rfl,H1.out.drewN nq,HK.out.drewN nq⟩
  ·have hg:=HG.out;rw[aP (by rw[hro];simp;omega)] at hg;unfold rT at hg;dsimp only at hg;have d1:decide (s1.now<s1.exp)=false:=by simpa using hlt
   have Vq:=ah hg;clear hg hro;go_wp2_with fail
   go_quiet (fail)
   have h2:=H1.out.drewN nq;have hk2:=HK.out.drewN nq;generalize wc.drewN nq=w2 at*;have hfr:=Jr h2 HO.out s1.gW HO.out.n4;have Q7:=ah hfr;have H2:=ah h2;have EQ:=ah hk2;have hfl:=AY s1.m 1024 s1.gW HO.out.n4;clear hfr h2 hk2 x3 Cb Xh Xi H1 HK;generalize lN s1.m 1024 s1.gW=F at*;have MC:=H2.out.cells.2.2.2.2.2.2.2.1;go_upto_region 3 with (go_at_call 99;refine Q7.out.mono ?_;rintro e3 w3 ⟨rfl,hb3⟩;have h3:=H2.out.below hb3;have f9:=h3.blk.frozen 9;have c9:=h3.cells.2.2.2.2.1;have qR:=ah (EQ.out.trans (wL hb3));have H3:=ah h3;clear h3 hb3)
   have h4:=H3.out.put 9 (.int .i64 (F:Nat)) (st':= {s1 with status:=F}) rfl rfl rfl;have hk4:=qR.out.setCell (p:=⟨g,9,none⟩) (fun o _=>HT.out o) (.int .i64 (F:Nat));generalize w3.setCell ⟨g,9,none⟩ (.int .i64 (F:Nat))=w4 at*;have f14:=h4.blk.frozen 14;have f11:=h4.blk.frozen 11;have c14:=h4.cells.2.2.2.2.2.2.2.2.2.1;have c11:=h4.cells.2.2.2.2.2.2.1;have h5:=(h4.put 14 (.bool true) (st':= {s1 with status:=F,due:=true}) rfl rfl rfl).put 11 (.bool false) (st':= {s1 with status:=F,due:=true,ro:=false}) rfl rfl rfl;have hk5:=(hk4.setCell (p:=⟨g,14,none⟩) (fun o _=>HT.out o) (.bool true)).setCell (p:=⟨g,11,none⟩) (fun o _=>HT.out o) (.bool false);have H5:=ah h5;have zw:=ah hk5;clear h4 hk4 h5 hk5 H3 qR MC f9 c9;go_upto_region 4 with (fail)
   generalize (w4.setCell ⟨g,14,none⟩ (.bool true)).setCell ⟨g,11,none⟩ (.bool false)=w5 at*;obtain ⟨y3,y4,y7,y8,y9,KQ,Vk,Bt,y13,Jg,Oo,CZ,UH,Ku⟩:=H5.out.cells;have LH:fM {s1 with status:=F,due:=true,ro:=false}:=⟨HO.out.n1,hfl,HO.out.n3,HO.out.n4,HO.out.m,HO.out.op,HO.out.t1,HO.out.t2⟩;have HO5:=ah LH;clear f14 f11 c14 c11 y3 y4 y7 y8 Vk Bt y13 Jg Oo CZ UH Ku LH
   replace y9:w5.cell? ⟨g,9,none⟩=some (.int .i64 (F:Nat)):=y9
   replace KQ:w5.cell? ⟨g,10,none⟩=some (.int .i64 (s1.high:Nat)):=KQ
   by_cases he:s1.high=F
   ·have hgg:=Vq.out;rw[aP (by simpa using he)] at hgg;have d2:((s1.high:Int) !=(F:Int))=false:=by simp;omega
    have HG2:=ah hgg;clear hgg he;go_wp2_with fail
    go_quiet (fail)
    go_wp2_with fail
    go_end0
    rw[HG2.out];exact ⟨rfl,H5.out.drewN _,zw.out.drewN _⟩
   ·have hgg:=Vq.out;rw[bD he] at hgg;have d2:((s1.high:Int) !=(F:Int))=true:=by simp;omega
    have HG2:=ah hgg;clear hgg he;have hwt:=fun q=>FO (H5.out.drewN q) HO5.out HCF.out.r1 (by have:=HCF.out.r2;omega)
    have HWT:=ah hwt;clear hwt;go_wp2_with fail
    go_quiet (fail)
    go_wp2_with (go_at_call 101;refine (HWT.out _).mono ?_;rintro e6 w6 ⟨rfl,h6,qP⟩)
    go_end0
    rw[HG2.out];exact ⟨rfl,h6,(zw.out.drewN _).trans qP⟩
end
end Go.Proofs.YtbhiklnljiehiaaGreat
