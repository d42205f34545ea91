/- law37: a link: step (both Who in one wal. -/
import Derived.Test.YtbhiklnljiehiaaGreatM3bu
import Derived.Test.YtbhiklnljiehiaaGreatM3bw
set_option maxHeartbeats 8000000
set_option maxRecDepth 100000
namespace Go.Proofs.YtbhiklnljiehiaaGreat
open RowKit Shelf Tryz
attribute [local go_sem] Oper.semAt_some
section
variable {w0 W W':World} {g ga gb na nb na' G J K M:Nat} {c:Cf} {a b:En} {s:Sd} {r:Rc} {Fa Fb nQ:Fp} {v0 v1 u0 u1:Value} {now:Int}
theorem Rp {sw who:Bool} (hw:sw=who) (h:zn w0 sw g ga gb c a b na nb Fa Fb v0 v1 u0 u1 now W) (P:tZ c a b G J K) (hna:na<=M) (hnb:nb<=M) (hM:M<=100000) (hG:G<511) (hK:K<=70000) (hJ:J<=99000) (yw:0<=now) (ed:now<=9223372036854775800) (what:Int) (n pick:UInt8)
 {A:Option Addr} {m cc:Nat} {x:List UInt8} (hx0:Sl w0 w0 A m cc (dz x)) (K5:x.length<=60):
 Calls prog 12 #[.pointer (some g),.agg (evC what who n pick A m cc)] W (aiF w0 sw g ga gb c (oF c a b now what n pick x) (M+1)):=by
 obtain ⟨j0,hj0,hm0,hm1,hm2⟩:=vz uq;have hlen:x.length=m:=by simpa using hx0.len
 have hx:=hx0.below h.r.oz;have HX0:=ah hx0;have hz:=h.r.oz.size;have bev:=av.new W 33 (evC what who n pick A m cc);have hL:=h.below ((bS _ W).alloc (aL) (.cells (evC what who n pick A m cc) 33));have hxL:=hx.below ((bS w0 W).alloc hz (.cells (evC what who n pick A m cc) 33));have hgl:=h.blk.lt;have HNF:=ah (fun e=>by have:=h.r.ea.lt W e;omega:¬Fa W);have HZ1:=ah (show (W.alloc (.cells (evC what who n pick A m cc) 33)).heap.size=W.heap.size+1 by simp);have hPS:=P.step hG (by omega) (now:=now) (by omega) what n pick (x:=x) K5;have hsn:=Cv c a b now what n pick x;have hsb:=ZI c a b now what n pick x;obtain ⟨S,hS⟩:∃S,oF c a b now what n pick x=S:=⟨_,rfl⟩
 rw[hS] at hPS hsn hsb ⊢;have Qy:=ah hPS;have HSE:=ah hS;have HP:=ah P;have Xw:=ah hL;have HX:=ah hxL;have HEV:=ah bev;have HW:=ah hw;clear hw;obtain ⟨i4,h4⟩:∃i4:Nat,i4=if who=true then 5 else 4:=⟨_,rfl⟩
 have hwI:GA sw=if who=true then 1 else 0:=by rw[HW.out];rfl
 unfold evC at*;clear h hx hx0 hPS hS P hL hxL bev;obtain ⟨W1,hW1⟩:∃W1,W.alloc (.cells #[what,.bool who,.int .u8 n.toNat,.int .u8 pick.toNat,.slice A m cc] 33)=W1:=⟨_,rfl⟩
 rw[hW1] at Xw HX HEV HZ1;have HW1:=ah hW1;clear hW1;cases who
 all_goals
  go_enter func12,ntmps12
  go_upto_block 0 with (fail)
  go_cut [6] from 11 to 95 (fun s6 wx=>vO w0 sw g ga gb c S.1 S.2.1 (M+1) S.2.2 wx)
  case first=>
   rw[HW1.out];have hblk:=Xw.out.blk;unfold zy at hblk;simp only[HW.out,mq,l7,kE] at hblk;have p8:W1.cell? ⟨g,8,none⟩=some (.int .i64 now):=hblk.cell 8;have p8f:W1.frozen? ⟨g,8,none⟩=false:=hblk.frozen 8;have ev2:W1.cell? ⟨W,2,none⟩=some (.int .u8 n.toNat):=HEV.out.cell 2;have ev3:W1.cell? ⟨W,3,none⟩=some (.int .u8 pick.toNat):=HEV.out.cell 3;have ev4:W1.cell? ⟨W,4,none⟩=some (.slice A m cc):=HEV.out.cell 4;have p8':W1.drew.cell? ⟨g,8,none⟩=some (.int .i64 now):=p8;have auI:W1.drew.frozen? ⟨g,8,none⟩=false:=p8f;have auJ:W1.drew.cell? ⟨W,2,none⟩=some (.int .u8 n.toNat):=ev2;have auK:W1.drew.cell? ⟨W,3,none⟩=some (.int .u8 pick.toNat):=ev3;have anh:W1.drew.cell? ⟨W,4,none⟩=some (.slice A m cc):=ev4;have HEL:=ah (show W.heap.size<W1.drew.heap.size from HEV.out.lt);have hn8:=n.toNat_lt;have hpk:=pick.toNat_lt;have hnw:IntKind.i64.wrap (n.toNat:Int)=(n.toNat:Int):=iG _ (by omega);have hpw:IntKind.i64.wrap (pick.toNat:Int)=(pick.toNat:Int):=iG _ (by omega);rw[vk] at hnw hpw
   all_goals
    simp only[mq,l7,kE] at h4 hwI
    first
     |have p0:W1.cell? g=some (.pointer (some ga)):=hblk.cell 0
     |have p0:W1.cell? ⟨g,1,none⟩=some (.pointer (some ga)):=hblk.cell 1
    have p0':W1.drew.cell? ⟨g,_,none⟩=some (.pointer (some ga)):=p0;by_cases w0_:what=0
    .subst w0_;have LC:=HSE.out;unfold oF at LC;rw[bD rfl] at LC;have wV:=ah LC.symm;have hxs:Sl W1.drew W1.drew.heap.size A m cc (dz x):=(HX.out.below (bS _ W1).drew).more (by have:=Xw.out.r.oz.size;exact this);have HC:=ah (Qs (Xw.out.below (bS _ W1).drew) HP.out.oa hxs);clear LC hblk hsn hsb;go_upto_region 7 with (fail)
     go_cut [35] from 25 to 34 (fun s35 wx=>s35= .bool (decide ((bV c a.s x).2=0))/\∃nQ,zn w0 sw g ga gb c {a with s:=(bV c a.s x).1,r:=a.r} b na nb nQ Fb v0 v1 u0 u1 now wx/\Below w0 w0 wx/\wx.cell? ⟨W,4,none⟩=some (.slice A m cc))
     case first=>
      have auN:((bV c a.s x).2==0)=decide ((bV c a.s x).2=0):=by rw[mr];simp
      go_region_law (first
       |(go_simp;(with_reducible refine HC.out.mono ?_);rintro e4 w4 ⟨wY,rfl,hL4,hk4⟩)
       |(go_simp;(with_reducible refine (pR _ _).mono ?_);rintro e5 w5 ⟨rfl,rfl⟩))
      all_goals
       go_wp2_with fail;go_meet;exact ⟨rfl,wY,hL4,hL4.r.oz,(Ei (a:=⟨W,4,none⟩) (hk4 W HEL.out HNF.out)).trans anh⟩
     case rest=>
      obtain ⟨rfl,wY,hL4,hb4,ani⟩:=hcut;clear HC;by_cases hsub:(bV c a.s x).2=0
      .obtain ⟨z1,z2⟩:=uM (c:=c) hsub;rw[iK hsub];have hS2:S=({a with s:=dQ a.s x,iA:=a.iA++ [x]},b,now):=by rw[wV.out];unfold uN;rw[bD hsub]
       have HS2:=ah hS2;rw[z1] at hL4;dsimp only at hL4;clear z1 hS2 hsub;have hil:=HP.out.ia;obtain ⟨vs,hvs⟩:=hL4.r.i0;obtain ⟨A0,c0,hv0,_,_⟩:=aY hvs.1;subst hv0;have aiG:Value.slice A m cc=Value.slice A x.length cc:=by rw[hlen]
       have TS:=(hL4.below ((bS _ wc).alloc (aL) (.cells #[.slice A m cc] 31))).below (bS _ _).drew;have GB:(wc.alloc (.cells #[.slice A m cc] 31)).drew.ownsRow w0.heap.size 31 1 (.slice A0 a.iA.length c0) a.iA.length vs:=World.ownsRow.drew' (hvs.1.alloc _);have hxA:Sl (wc.alloc (.cells #[.slice A m cc] 31)).drew w0.heap.size A x.length cc (dz x):=by
        have h1:=HX0.out.below TS.r.oz;rw[hlen];exact h1
       have HPU:=ah (fun (v':Value) (W':World) hown hg hb=>TS.r.aiD (v':=v') (W':=W') GB hxA hown hg hb);rw[<-aiG] at HPU;have XJ:=ah GB;have Xu:=ah TS.blk;have HZ:=ah hL4.r.oz.size;have fC:=hL4.blk;unfold zy at fC;simp only[HW.out,mq,l7,kE] at fC
       first|have x2:wc.cell? ⟨g,4,none⟩=some (.slice A0 a.iA.length c0):=fC.cell 4|have x2:wc.cell? ⟨g,5,none⟩=some (.slice A0 a.iA.length c0):=fC.cell 5
       first|have x2a:(wc.alloc (.cells #[.slice A m cc] 31)).cell? ⟨g,4,none⟩=some (.slice A0 a.iA.length c0):=(fC.alloc _).cell 4|have x2a:(wc.alloc (.cells #[.slice A m cc] 31)).cell? ⟨g,5,none⟩=some (.slice A0 a.iA.length c0):=(fC.alloc _).cell 5
       have x2b:(wc.alloc (.cells #[.slice A m cc] 31)).drew.cell? ⟨g,_,none⟩=some (.slice A0 a.iA.length c0):=x2a;have aqu:wc.drew.cell? ⟨W,4,none⟩=some (.slice A m cc):=ani;have hsz:=mZ wc (.cells #[.slice A m cc] 31);have HS:=ah hsz;have auO:a.iA.length<=99000:=by omega
       clear hvs TS GB hxA hL4 fC hsz aiG;go_upto_region 8 with (fail)
       go_region_law ((refine fA _ (by rfl) _ _ 37 (by rfl) w0 31 j0 (.slice none 0 0) 24 wE hj0 hm0 hm1 hm2 rfl (.slice A0 a.iA.length c0) a.iA.length vs (by rfl) XJ.out (wc.alloc (.cells #[.slice A m cc] 31)).heap.size (some ⟨wc,0,none⟩) 1 1 [.slice A m cc] (by rfl) (pG wc (.slice A m cc) 31) (by simp[Value.oneCell']) (by unfold maxLen;omega) (by omega) (by have:=HS.out;have:=HZ.out;simp;omega) ?_;intro v5 w5 hown5 dV hb5;obtain ⟨A5,c5,rfl,hs5,_⟩:=aY hown5;obtain ⟨hP,hg5⟩:=HPU.out _ w5 hown5 dV hb5;have vI:=hg5.trans Xu.out;have q2:=av.cell vI i4;have q3:=av.frozen vI i4;rw[h4] at q2 q3;unfold zy at q2;simp[HW.out] at q2))
       all_goals
        have hL:zn w0 sw g ga gb c {a with s:=dQ a.s x,iA:=a.iA++ [x]} b na nb wY Fb v0 v1 (.slice A5 (a.iA.length+1) c5) u1 now (w5.setCell ⟨g,i4,none⟩ (.slice A5 (a.iA.length+1) c5)):=⟨hP.cell i4 _,by
         have hB:=av.ay vI i4 (.slice A5 (a.iA.length+1) c5);rw[h4] at hB ⊢;unfold zy at hB ⊢;simpa[HW.out] using hB⟩
        rw[h4] at hL;go_wp2_with fail;go_meet;rw[HS2.out];exact ⟨_,_,_,_,_,_,_,_,by omega,by omega,hL⟩
      .rw[iP hsub];have hS2:S=(a,b,now):=by rw[wV.out];unfold uN;rw[aP hsub]
       have HS2:=ah hS2;rw[N8 hsub] at hL4;have HL4:=ah hL4;clear hS2 hsub hL4;go_wp2_with fail;go_meet;rw[HS2.out];exact ⟨_,_,_,_,_,_,_,_,by omega,by omega,HL4.out⟩
    by_cases w1_:what=1\/what=2\/what=3
    .have LC:=HSE.out;unfold oF at LC;rw[aP w0_,bD w1_] at LC;have wV:=ah LC.symm;have HC:=ah (Dm Xw.out HP.out.oa (by omega) HP.out.ra (by omega) (by have:=HP.out.la;omega) (n.toNat:Int) (by omega));rw[hwI] at HC;clear LC hblk hsn hsb;rcases w1_ with rfl|rfl|rfl
     all_goals
      go_wp2_with fail;refine HC.out.mono ?_;rintro e9 w9 ⟨b9,Fa9,v9,rfl,hL9⟩;go_wp2_with fail;go_meet;rw[wV.out];exact ⟨_,_,_,_,_,_,_,_,by omega,by omega,hL9⟩
    have LC:=HSE.out;unfold oF at LC;by_cases w4_:what=4\/what=5\/what=6\/what=7
    .rw[aP w0_,aP w1_,bD w4_] at LC;obtain ⟨vs,hvs⟩:=Xw.out.r.s1;obtain ⟨A1,c1,hv1,hsl1,_⟩:=aY hvs.1;subst hv1
     first|have x1:W1.cell? ⟨g,3,none⟩=some (.slice A1 b.sent.length c1):=hblk.cell 3|have x1:W1.cell? ⟨g,2,none⟩=some (.slice A1 b.sent.length c1):=hblk.cell 2
     have x1':W1.drew.cell? ⟨g,_,none⟩=some (.slice A1 b.sent.length c1):=x1;have hlb:=HP.out.lb;rcases oV b.sent.length with hb0|hbp
     .have hS2:S=(a,b,now):=by
       rw[<-LC,nV hb0];rfl
      have HS2:=ah hS2;rw[hb0] at x1 x1';clear hvs hsl1 LC hS2 hblk hsn hsb hlb hb0;rcases w4_ with rfl|rfl|rfl|rfl
      all_goals
       go_upto_region 18 with (fail)
       go_quiet (fail)
       go_wp2_with fail;go_meet;rw[HS2.out];exact ⟨na,nb,Fa,Fb,_,_,_,_,by omega,by omega,Xw.out.below ((bS _ W1).drewN _)⟩
     .obtain ⟨j,hj⟩:∃j,pick.toNat%b.sent.length=j:=⟨_,rfl⟩
      have hjl:j<b.sent.length:=by rw[<-hj];exact zI _ hbp
      obtain ⟨y,hy⟩:∃y,b.sent[j]? =some y:=⟨_,gX hjl⟩
      have hmem:=iT hy;have hS2:S=(lU c a now y,b,now):=by
       rw[<-LC,hj,hy]
      obtain ⟨vi,e1,e2,e3⟩:=hvs.2 j y hy;obtain ⟨Ay,cy,hvy,hsy,_⟩:=aY e2;subst hvy;obtain ⟨ad1,hA1,FC,hcl⟩:=hsl1.at_ hbp;subst hA1;have xj:W1.cell? (ad1.add j)=some (.slice Ay y.length cy):=hcl j _ e1;have xj':W1.drew.cell? (ad1.add j)=some (.slice Ay y.length cy):=xj;obtain ⟨q1,q2,q3⟩:=HP.out.recv now (by omega) hmem;have hsy2:=(HP.out.sb y hmem).2;have hGV:=GD (Xw.out.below (bS _ W1).drew) HP.out.oa (by omega) HP.out.ra (by unfold maxLen;omega) (by omega) Ay y.length cy y (fun W2 hk=>by
       have h2:W2.ownsRow w0 5 1 (.slice Ay y.length cy) y.length (dz y):=dw e2 fun k hk2=>by
        obtain ⟨cs,fr,hc⟩:=pU e2 hk2;exact (hk.same k (.cells cs 5 fr) hc fun e=>e3 k hk2 (.inl (e.2 ⟨cs,fr,rfl⟩))).trans hc.symm
       obtain ⟨A',c',e',hs',_⟩:=aY h2;cases e';exact hs') (by omega) (by have:=HP.out.ib;omega) q2 q3
      rw[hwI] at hGV;have HGV:=ah hGV;have HS2:=ah hS2;have aqv:decide ((0:Int)<(b.sent.length:Int))=true:=iK (by omega);have hjm:(pick.toNat:Int)%(b.sent.length:Int)=(j:Int):=by rw[<-hj];rfl
      have hj0:(0:Int)<=(j:Int):=by omega
      have hj1:(j:Int)<(b.sent.length:Int):=by omega
      have auR:((b.sent.length:Int)==0)=false:=by
       cases h0:((b.sent.length:Int)==0) with
       |false=>rfl
       |true=>exact absurd (eq_of_beq h0) (by omega)
      clear hvs hsl1 LC hS2 hblk hsn hsb hlb e1 e2 e3 hsy hcl q1 q2 q3 hGV hmem hy hj hsy2;rcases w4_ with rfl|rfl|rfl|rfl
      all_goals
       go_upto_region 18 with (fail)
       go_cut [95] from 74 to 94 (fun s95 wx=>s95= .bool false/\vO w0 sw g ga gb c (lU c a now y) b (M+1) now wx)
       case first=>
        have auT:IntKind.i64.wrap 1=1:=by decide
        have auU:IntKind.i64.wrap (pick.toNat:Int)=(pick.toNat:Int):=iG _ (by omega);have auV:¬b.sent= []:=fun e=>by rw[e] at hbp;simp at hbp
        have htm:(pick.toNat:Int).tmod (b.sent.length:Int)=(j:Int):=by rw[Int.tmod_eq_emod_of_nonneg (by omega)];exact hjm
        have auW:IntKind.i64.wrap 0=0:=by decide
        refine wp_region_still_tail 19 (by kernel_rfl) (by kernel_rfl) ?_;simp only[kJ,nu,pV,ny]
        still_step
        still_step
        still_step
        still_step
        still_step
        still_step
        still_step
        still_step
        still_step
        still_step
        still_step
        still_step
        still_step
        still_step
        still_step
        still_step
        still_step
        still_step
        still_step
        refine oK ?_;change wpList _ _ _ _ _ W1.drew;go_wp2_with fail;refine HGV.out.mono ?_;rintro e9 w9 ⟨n9,Fa9,rfl,hn9,hL9⟩;go_wp2_with fail;go_meet;exact ⟨rfl,_,_,_,_,_,_,_,_,by omega,by omega,hL9⟩
       case rest=>
        obtain ⟨rfl,hL9⟩:=hcut;go_wp2_with fail;go_meet;rw[HS2.out];exact hL9
    .rw[aP w0_,aP w1_,aP w4_] at LC;have wV:=ah LC.symm;have q0:(what==0)=false:=by simpa using w0_
     have q1:(what==1)=false:=by simp;omega
     have q2:(what==2)=false:=by simp;omega
     have q3:(what==3)=false:=by simp;omega
     have q4:(what==4)=false:=by simp;omega
     have q5:(what==5)=false:=by simp;omega
     have q6:(what==6)=false:=by simp;omega
     have q7:(what==7)=false:=by simp;omega
     have hm8:=zI n.toNat (show 8>0 by omega);have hcast:((n.toNat%8:Nat):Int)=(n.toNat:Int)%8:=by omega
     rw[hcast] at wV;have HLN:=ah (show vO w0 sw g ga gb c a b (M+1) (now+(n.toNat:Int)%8) (W1.setCell ⟨g,8,none⟩ (.int .i64 (now+(n.toNat:Int)%8))).drew from
      vO.below ⟨na,nb,Fa,Fb,v0,v1,u0,u1,by omega,by omega,((Xw.out.r.cell 8 _).Tq a.out b.out),by
       have hB:=Xw.out.blk.ay 8 (.int .i64 (now+(n.toNat:Int)%8));unfold zy at hB ⊢;simpa[HW.out] using hB⟩ (bS _ _).drew)
     have hwn:IntKind.i64.wrap (now+(n.toNat:Int)%8)=now+(n.toNat:Int)%8:=iG _ (by omega);rw[vk] at hwn;clear LC hblk hsn hsb w0_ w1_ w4_;go_upto_region 5 with (fail)
     go_region
     all_goals
      go_wp2_with fail;go_meet;rw[wV.out];exact HLN.out
  case rest=>
   obtain ⟨na2,nb2,Fa2,Fb2,y0_,y1_,y2_,y3_,_,_,hM⟩:=id hcut;have HX9:=ah hcut;have hblk:=hM.blk;unfold zy at hblk;obtain ⟨gx,gy,ox,oy,dx,dy,Bq,hcx,hcy,hxy,hyx⟩:∃gx gy ox oy dx dy:Nat,(∀w':World,Below wc wc w'->w'.cell? g=some (.pointer (some gx))/\w'.cell? ⟨g,1,none⟩=some (.pointer (some gy))/\w'.cell? ⟨g,6,none⟩=some (.int .i64 ox)/\w'.cell? ⟨g,7,none⟩=some (.int .i64 oy))/\
    (∀V:World,Below wc wc V->Calls prog 25 #[.pointer (some gx)] V fun e W'=>e= .returned dx/\Below V V W')/\
    (∀V:World,Below wc wc V->Calls prog 25 #[.pointer (some gy)] V fun e W'=>e= .returned dy/\Below V V W')/\dx<=oy/\dy<=ox:=by
    have hA:=fun (V:World) (hV:Below wc wc V)=>jT (hM.r.ea.below hV) Qy.out.oa
    have hB:=fun (V:World) (hV:Below wc wc V)=>jT (hM.r.eb.below hV) Qy.out.ob
    have hC:=Qy.out.da.confirmed;have hD:=Qy.out.db.confirmed
    all_goals
     simp only[HW.out,mq,l7,kE] at hblk;have Bq:=fun (w':World) (hV:Below wc wc w')=>hblk.below hV hblk.lt
     first
      |exact ⟨ga,gb,_,_,_,_,fun w' hV=>⟨(Bq w' hV).cell 0,(Bq w' hV).cell 1,(Bq w' hV).cell 6,(Bq w' hV).cell 7⟩,hA,hB,hC,hD⟩
      |exact ⟨gb,ga,_,_,_,_,fun w' hV=>⟨(Bq w' hV).cell 0,(Bq w' hV).cell 1,(Bq w' hV).cell 6,(Bq w' hV).cell 7⟩,hB,hA,hD,hC⟩
   have HS:=ah Bq;have HCX:=ah hcx;have HCY:=ah hcy;have hd1:decide ((dx:Int)<=(oy:Int))=true:=iK (by omega);have hd2:decide ((dy:Int)<=(ox:Int))=true:=iK (by omega);have au0:decide (dx<=oy)=true:=iK hxy;have au1:decide (dy<=ox)=true:=iK hyx;have hb0:=(bS wc wc).drew;clear hblk Bq hM hcut hsn hsb hcx hcy;go_upto_region 20 with (fail)
   refine bX (fun w'=>w'.cell? g=some (.pointer (some gx))/\w'.cell? ⟨g,1,none⟩=some (.pointer (some gy))/\w'.cell? ⟨g,6,none⟩=some (.int .i64 ox)/\w'.cell? ⟨g,7,none⟩=some (.int .i64 oy)) [] (by kernel_rfl) ?_;have hHeld:=HS.out _ hb0;refine aW 0 ?_;refine aW 1 ?_;refine aW 2 ?_;refine aW 3 ?_;refine jq [] 4 ?_;refine aW 6 ?_;refine aW 7 ?_;refine aW 8 ?_;refine aW 9 ?_;refine jq [] 10 ?_;refine aU (i:=5) rfl (by kernel_rfl) (by rfl) (fun K hK=> ?_);go_simp;refine (HCX.out _ hb0).mono ?_;rintro e6 w6 ⟨rfl,hb6⟩;have hbx:=hb0.trans (hb6.mono hb0.size);refine hK _ _ (HS.out _ hbx) ?_;have hHeld:=(HS.out _ hbx);clear hK K
   try simp only[Act.put,gJ]
   refine aW 11 ?_;refine aW 12 ?_;refine aW 13 ?_;refine aW 14 ?_;refine aW 15 ?_;refine aW 16 ?_;refine jq [] 17 ?_;refine aW 19 ?_;refine aW 20 ?_;refine aW 21 ?_;refine aW 22 ?_;refine jq [] 23 ?_;refine aU (i:=18) rfl (by kernel_rfl) (by rfl) (fun K hK=> ?_);go_simp;refine (HCY.out _ hbx).mono ?_;rintro e7 w7 ⟨rfl,qT⟩;have hbz:=hbx.trans (qT.mono hbx.size);refine hK _ _ (HS.out _ hbz) ?_;have hHeld:=(HS.out _ hbz);clear hK K
   try simp only[Act.put,gJ]
   refine aW 24 ?_;refine aW 25 ?_;refine aW 26 ?_;refine bW (by kernel_rfl) ?_ _;go_wp2_with fail;go_ret;exact ⟨rfl,HX9.out.below hbz⟩
end
def aiK (w:World) (e:Ending) (w':World):Prop:=e= .returned (.bool true)/\Below w w w'
theorem vO.oz {w0 W:World} {sw:Bool} {g ga gb M:Nat} {c:Cf} {a b:En} {now:Int} (h:vO w0 sw g ga gb c a b M now W):Below w0 w0 W:=by
 obtain ⟨na,nb,Fa,Fb,v0,v1,u0,u1,_,_,h3⟩:=h;exact h3.r.oz
section
variable {w0 W W':World} {sw:Bool} {g ga gb G J K M:Nat} {c:Cf} {a b:En} {now:Int}
theorem aiL (h:vO w0 sw g ga gb c a b M now W) (P:tZ c a b G J K) (hK:K<=80000) (hJ:J<=99000) (ed:now<=9223372036854775800) (N:Int) (hN:N<=9223372036854775807):
 Calls prog 14 #[.pointer (some g),.int .i64 (GA sw),N] W fun e W'=>∃b',e= .returned (.bool b')/\vO w0 sw g ga gb c (dL c a now N) b M now W':=by
 obtain ⟨na,nb,Fa,Fb,v0,v1,u0,u1,h1,h2,h3⟩:=h;refine (Dm h3 P.oa hK P.ra (by omega) (by have:=P.la;omega) N hN).mono ?_;rintro e W' ⟨b',nQ,v0',rfl,hL⟩;exact ⟨b',rfl,_,_,_,_,_,_,_,_,h1,h2,hL⟩
def Od (sw:Bool):Nat:=if sw=true then 3 else 2
theorem aa7 (h:vO w0 sw g ga gb c a b M now W):∃A1 c1,W.cell? ⟨g,Od sw,none⟩=some (.slice A1 a.sent.length c1):=by
 obtain ⟨na,nb,Fa,Fb,v0,v1,u0,u1,h1,h2,h3⟩:=h;obtain ⟨vs,hvs⟩:=h3.r.s0;obtain ⟨A1,c1,rfl,_⟩:=aY hvs.1;have hblk:=h3.blk;unfold zy at hblk;refine ⟨A1,c1,?_⟩;cases sw with
 |false=>exact hblk.cell 2
 |true=>exact hblk.cell 3
theorem aiM (h:vO w0 sw g ga gb c a b M now W) (P:tZ c a b G J K) (hM:M<=100000) (hK:K<=80000) (hJ:J<=99000) (ed:now<=9223372036854775800) {j:Nat} {y:List UInt8} (hy:b.sent[j]? =some y):
 ∃(ad:Addr) (c1:Nat) (Ay:Option Addr) (cy:Nat),W.cell? ⟨g,Od (!sw),none⟩=some (.slice (some ad) b.sent.length c1)/\W.cell? (ad.add j)=some (.slice Ay y.length cy)/\
  ∀V,Below W W V->Calls prog 15 #[.pointer (some g),.int .i64 (GA sw),.slice Ay y.length cy] V fun e W'=>e= .returned (.bool true)/\vO w0 sw g ga gb c (lU c a now y) b (M+1) now W':=by
 obtain ⟨na,nb,Fa,Fb,v0,v1,u0,u1,h1,h2,h3⟩:=h;obtain ⟨vs,hvs⟩:=h3.r.s1;obtain ⟨A1,c1,rfl,hsl1,_⟩:=aY hvs.1;have hjl:j<b.sent.length:=(pN.1 hy).1;have hmem:=iT hy;obtain ⟨vi,e1,e2,e3⟩:=hvs.2 j y hy;obtain ⟨Ay,cy,rfl,hsy,_⟩:=aY e2;obtain ⟨ad1,rfl,FC,hcl⟩:=hsl1.at_ (show 0<b.sent.length by omega);have hblk:=h3.blk;unfold zy at hblk;obtain ⟨q1,q2,q3⟩:=P.recv now (by omega) hmem;have hsy2:=(P.sb y hmem).2;refine ⟨ad1,c1,Ay,cy,?_,hcl j _ e1,fun V hV=> ?_⟩
 .cases sw with
  |false=>exact hblk.cell 3
  |true=>exact hblk.cell 2
 .refine (GD (h3.below hV) P.oa (by omega) P.ra (by unfold maxLen;omega) (by omega) Ay y.length cy y (fun W2 hk=> ?_) (by omega) (by have:=P.ib;omega) q2 q3).mono ?_
  .have h2:W2.ownsRow w0 5 1 (.slice Ay y.length cy) y.length (dz y):=dw e2 fun k hk2=>by
    obtain ⟨cs,fr,hc⟩:=pU e2 hk2;have hcV:=(hV.block k (lt_of_heap hc)).trans hc;exact (hk.same k (.cells cs 5 fr) hcV fun e=>e3 k hk2 (.inl (e.2 ⟨cs,fr,rfl⟩))).trans hc.symm
   obtain ⟨A',c',e',hs',_⟩:=aY h2;cases e';exact hs'
  .rintro e W' ⟨n9,Fa9,rfl,hn9,hL9⟩;exact ⟨rfl,_,_,_,_,_,_,_,_,by omega,by omega,hL9⟩
theorem ZO (h:vO w0 sw g ga gb c a b M now W) (t:Int):vO w0 sw g ga gb c a b M t (W.setCell ⟨g,8,none⟩ t):=by
 obtain ⟨na,nb,Fa,Fb,v0,v1,u0,u1,h1,h2,h3⟩:=h;refine ⟨na,nb,Fa,Fb,v0,v1,u0,u1,h1,h2,(h3.r.cell 8 _).Tq a.out b.out,?_⟩;have hB:=h3.blk.ay 8 t;unfold zy at hB ⊢;cases sw<;>simpa using hB
theorem Cw (h:vO w0 false g ga gb c a b M now W):W.cell? g=some (.pointer (some ga))/\W.cell? ⟨g,1,none⟩=some (.pointer (some gb))/\W.cell? ⟨g,8,none⟩=some (.int .i64 now)/\W.frozen? ⟨g,8,none⟩=false:=by
 obtain ⟨na,nb,Fa,Fb,v0,v1,u0,u1,h1,h2,h3⟩:=h;have hblk:=h3.blk;unfold zy at hblk;exact ⟨hblk.cell 0,hblk.cell 1,hblk.cell 8,hblk.frozen 8⟩
theorem GG (h:vO w0 sw g ga gb c a b M now W) (ho:fu c a.s K) (V:World) (hV:Below W W V):Calls prog 16 #[.pointer (some ga)] V fun e W'=>e= .returned (.bool a.s.failed)/\Below W W W':=by
 obtain ⟨na,nb,Fa,Fb,v0,v1,u0,u1,h1,h2,h3⟩:=h;exact (Dj (h3.r.ea.below hV) ho).mono fun e W' hh=>⟨hh.1,hV.trans (hh.2.mono hV.size)⟩
theorem ZP {k:Nat} (h:vO w0 false g ga gb c a b M now W) (P:tZ c a b G J K) (E:Dl a b now k) (hk:k<=30) (hT:c.timer<=20/\0<=c.cu/\c.cu<=20) (hM:M<=100000) (hG:G<511) (hK:K<=70000) (hJ:J<=99000) (yw:0<=now) (ed:now<=1000000) (x:EvQ)
 (hx0:Sl w0 w0 x.A x.b.length x.c (dz x.b)) (K5:x.b.length<=60):
 Calls prog 12 #[.pointer (some g),.agg #[x.k,.bool x.who,.int .u8 x.n.toNat,.int .u8 x.pick.toNat,.slice x.A x.b.length x.c]] W fun e W'=>
  ∃a b now',e= .returned (.bool true)/\now<=now'/\now'<=now+7/\vO w0 false g ga gb c a b (M+1) now' W'/\tZ c a b (G+1) (J+1) (K+6)/\Dl a b now' (k+1):=by
 obtain ⟨wh,who,n,pick,A,l,cc⟩:=x;cases who with
 |false=>
  have hP:=P.step hG (by omega) (now:=now) (by omega) wh n pick (x:=l) K5;have hE:=E.step hk P hT.1 hT.2.1 hT.2.2 yw ed wh n pick (x:=l) K5;have hs:=Cv c a b now wh n pick l;obtain ⟨na,nb,Fa,Fb,v0,v1,u0,u1,h1,h2,h3⟩:=h;refine (Rp rfl h3 P h1 h2 hM hG hK hJ yw (by omega) wh n pick hx0 K5).mono ?_;rintro e W' ⟨rfl,hL⟩;exact ⟨_,_,_,rfl,hs.1,hs.2,hL,hP,hE⟩
 |true=>
  have hP:=P.swap.step hG (by omega) (now:=now) (by omega) wh n pick (x:=l) K5;have hE:=E.swap.step hk P.swap hT.1 hT.2.1 hT.2.2 yw ed wh n pick (x:=l) K5;have hs:=Cv c b a now wh n pick l;obtain ⟨na,nb,Fa,Fb,v0,v1,u0,u1,h1,h2,h3⟩:=h.swap;refine (Rp rfl h3 P.swap h1 h2 hM hG hK hJ yw (by omega) wh n pick hx0 K5).mono ?_;rintro e W' ⟨rfl,hL⟩;exact ⟨_,_,_,rfl,hs.1,hs.2,hL.swap,hP.swap,hE.swap⟩
end
theorem WI {c:Cf} {a b:En} {J K m:Nat} {now:Int} (R:Rnd c a b J K now m) (hd:wZ a b=false):¬(Dh a.s/\Dh b.s):=fun hh=>by
 obtain ⟨x1,x2⟩:=N9 R.p.da R.p.oa.inv hh.1;obtain ⟨y1,y2⟩:=N9 R.p.db R.p.ob.inv hh.2;unfold wZ at hd;rw[x1,x2,y1,y2] at hd;simp at hd
def WJ (c:Cf) (a b:En) (u N:Int) (ga gb:Nat) (sw:Bool) (gA gB:Nat) (A B:En):Prop:=
 (sw=false/\gA=ga/\gB=gb/\A=a/\B=b)\/(sw=true/\gA=gb/\gB=ga/\A=gq c a b u N/\B=dL c a u N)
def aiN (w:World) (g ga gb:Nat) (c:Cf) (a b:En) (M:Nat) (u N:Int) (i:Value) (wr:World):Prop:=
 (∃sw gA gB A B,i= .int .i64 (GA sw)/\WJ c a b u N ga gb sw gA gB A B/\vO w sw g gA gB c A B (M+(if sw=true then 1 else 0)) u wr)\/(i= .int .i64 2/\vO w false g ga gb c (ZJ c a b u N) (ZK c a b u N) (M+2) u wr)
theorem adX {c:Cf} {a b A B:En} {G J K ga gb gA gB:Nat} {u N:Int} {sw:Bool} (P:tZ c a b G J K) (hG:G<510) (hK:K<=70000) (hu:u<=9223372036854775800) (h:WJ c a b u N ga gb sw gA gB A B):tZ c A B (G+1) (J+1) (K+9):=by
 rcases h with ⟨rfl,rfl,rfl,rfl,rfl⟩|⟨rfl,rfl,rfl,rfl,rfl⟩
 .exact (P.N7 (vQ _)).mono (vQ _) (by omega)
 .exact (P.half (by omega) (by omega) (by omega)).swap
theorem Tw {w wr:World} {g ga gb gA gB M:Nat} {c:Cf} {a b A B:En} {u N:Int} {sw:Bool} (h:WJ c a b u N ga gb sw gA gB A B) (hL:vO w sw g gA gB c (dL c A u N) (gq c A B u N) (M+(if sw=true then 1 else 0)+1) u wr):
 aiN w g ga gb c a b M u N (.int .i64 (GA sw+1)) wr:=by
 rcases h with ⟨rfl,rfl,rfl,rfl,rfl⟩|⟨rfl,rfl,rfl,rfl,rfl⟩
 .exact .inl ⟨true,_,_,_,_,rfl,.inr ⟨rfl,rfl,rfl,rfl,rfl⟩,hL.swap⟩
 .exact .inr ⟨rfl,hL.swap⟩
theorem Oe (a0 a1 a2 a3 a4 a5 a6:Int) (A:Option Addr) (n c:Nat) (l:List EvQ) (q:UInt8) (w:World) (h:ZM w w A n c l):
 Calls prog 4 #[.agg #[a0,a1,a2,a3,a4,a5,a6],.slice A n c,.int .u8 q.toNat] w (aiK w):=by
 have hb0:=(bS w w).alloc (aL) (.cells #[a0,a1,a2,a3,a4,a5,a6] 23);have hfe:=Oc A n c l (w.alloc (.cells #[a0,a1,a2,a3,a4,a5,a6] 23)) (h.base hb0 (by simp)) 30 (by decide);rw[show (((30:Nat):Int))=30 from rfl] at hfe;have hne:=Qt a0 a1 a2 a3 a4 a5 a6 w (w.alloc (.cells #[a0,a1,a2,a3,a4,a5,a6] 23)) hb0;have hc0:=av.new w 23 #[a0,a1,a2,a3,a4,a5,a6];unfold Be at hne;have hcap:=h.cap;have hmx:=h.mx;have kH:=ah h.len;have HFE:=ah hfe;have HB0:=ah hb0;have HNE:=ah hne;have HSL:=ah h;obtain ⟨x0,x1,x2,x3,x4,x5,x6⟩:=wX (a0:=a0) (a1:=a1) (a2:=a2) (a3:=a3) (a4:=a4) (a5:=a5) (a6:=a6) hc0;clear h hfe hb0 hne hc0;go_enter func4,ntmps4;go_wp2_with fail;generalize w.alloc (.cells #[a0,a1,a2,a3,a4,a5,a6] 23)=w1 at*;refine HFE.out.mono ?_;rintro e1 w2 ⟨b,rfl,hok,rfl⟩;clear HFE;by_cases hin:b=true/\a2<=20/\a3<=20/\a4<=20;rotate_left
 .have HB:=ah HB0.out;have hcs:b=false\/(b=true/\20<a2)\/(b=true/\¬20<a2/\20<a3)\/(b=true/\¬20<a2/\¬20<a3/\20<a4):=by cases b<;>simp at hin ⊢ <;>omega
  clear hok hin HNE HSL kH x0 x1 x5 x6;rcases hcs with rfl|⟨rfl,h2⟩|⟨rfl,h2,h3⟩|⟨rfl,h2,h3,h4⟩
  all_goals
   go_wp2_with fail;refine (oD _).mono ?_;rintro e1 w3 ⟨rfl,hb3⟩;go_wp2;go_ret;exact ⟨rfl,HB.out.trans (hb3.mono HB.out.size)⟩
 obtain ⟨rfl,h2,h3,h4⟩:=hin;have anm:n<=30:=by rw[<-kH.out];exact (hok rfl).1
 have HEV:=ah (hok rfl).2;clear hok;have n2:¬20<a2:=by omega
 have n3:¬20<a3:=by omega
 have n4:¬20<a4:=by omega
 go_wp2_with fail;clear x0 x1 x2 x3 x4 x5 x6 n2 n3 n4;refine HNE.out.mono ?_;rintro e1 w3 (⟨hr,g,ga,gb,rfl,hL⟩|⟨hb3,rfl⟩);rotate_left
 .have HB3:=ah (HB0.out.trans (hb3.mono HB0.out.size));clear HNE hb3;go_wp2_with fail;refine (oD _).mono ?_;rintro e1 w4 ⟨rfl,hb4⟩;go_wp2;go_ret;exact ⟨rfl,HB3.out.trans (hb4.mono HB3.out.size)⟩
 have HT:=ah hL;have HP:=ah (ZN hr);have HC:=ah (show (uK a0 a1 a2 a3 a4 a5 a6).timer<=20/\0<=(uK a0 a1 a2 a3 a4 a5 a6).cu/\(uK a0 a1 a2 a3 a4 a5 a6).cu<=20 by
  refine ⟨h2,?_,h4⟩;unfold eU at hr;simp only[gD] at hr;exact (jR hr.2.2.2.1 a4 (by simp)).1)
 generalize uK a0 a1 a2 a3 a4 a5 a6=cf at*;clear HNE hr hL HB0 h2 h3 h4;go_wp2_with fail
 go_loopw [9] (fun i wr=>∃(k:Nat) (a b:En) (now:Int),k<=n/\i= .int .i64 k/\0<=now/\now<=7*k/\vO w false g ga gb cf a b k now wr/\tZ cf a b k k (6*k)/\Dl a b now k) (fun i _=>n-(intOf i).toNat)
 case atStart=>exact ⟨0,en0,en0,0,eH _,rfl,by omega,by omega,HT.out,HP.out,Dl.start rfl rfl rfl rfl⟩
 case round=>
  obtain ⟨k,a,b,now,hk,rfl,yw,WK,hT,hP,hE⟩:=hrel;have HTT:=ah hT;have Yi:=ah hP;have HEE:=ah hE;have HK0:=ah yw;have yN:=ah WK;clear hT HT hP HP hE;by_cases hlt:k<n
  .obtain ⟨ad,x,rfl,alY,hx,hI,h0,h1,h2,h3,h4⟩:=HSL.out.get HTT.out.oz hlt;have e1:=h1;have e2:=h2;have e3:=h3;have e4:=h4;rw[<-JY _ _ _ (by decide)] at e1 e2 e3 e4;have HST:=ah (ZP HTT.out Yi.out HEE.out (by omega) HC.out (by omega) (by omega) (by omega) (by omega) yw (by omega) x hI (HEV.out x (iT hx)));clear hx hI yw WK;go_wp2_with fail;refine HST.out.mono ?_;rintro e1 w6 ⟨a',b',now',rfl,hn1,hn2,hL6,hP6,hE6⟩;have HL6:=ah hL6;have HP6:=ah hP6;have HE6:=ah hE6;have HN1:=ah hn1;have HN2:=ah hn2;clear hn1 hn2 hL6 hP6 hE6 HST HTT Yi HEE h0 h1 h2 h3 h4 e2 e3 e4 e1;go_wp2_with fail;exact ⟨⟨k+1,a',b',now',by omega,by go_num,by have:=HK0.out;have:=HN1.out;omega,by have:=yN.out;have:=HN2.out;omega,HL6.out,HP6.out,HE6.out⟩,by simp[intOf];omega⟩
  .obtain rfl:k=n:=by omega
   have HR0:=ah ((HEE.out.more anm).rnd Yi.out);clear HSL Yi HEE HEV kH hk yw WK;go_wp2_with fail
   go_loopw [10] (fun i wr=>∃(j:Nat) (a b:En) (now:Int) (m:Nat),i= .int .i64 j/\0<=now/\now<=210+j/\vO w false g ga gb cf a b (k+2*j) now wr/\Rnd cf a b (k+2*j) (6*k+9*j) now m/\m+2*j<=11008) (fun i _=>6000-(intOf i).toNat)
   case atStart=>exact ⟨0,a,b,now,11008,rfl,HK0.out,by have:=yN.out;omega,HTT.out,HR0.out,aL⟩
   case round=>
    clear HTT HR0 HK0 yN;obtain ⟨j,a,b,now,m,rfl,hn0,hn1,hL,hR,hm⟩:=hrel;have HL:=ah hL;have HR:=ah hR;have HD:=ah (fun (V:World) (hV:Below wr wr V)=>(Tv (hL.below hV) hR.p).mono fun e W' hh=>(⟨hh.1,hV.trans (hh.2.mono hV.size)⟩:e= .returned (.bool (wZ a b))/\Below wr wr W'));have hj6:(j:Int)<6000:=by omega
    clear hL hR;obtain ⟨wo,rfl⟩:∃wo:World,wo=wr:=⟨_,rfl⟩
    go_wp2_with fail;refine (HD.out _ (bS _ _)).mono ?_;rintro e2 w2 ⟨rfl,hb2⟩;cases hd:wZ a b with
    |true=>
     have HB2:=ah hb2;clear hb2;go_wp2_with fail;refine (HD.out _ HB2.out).mono ?_;rintro e3 w3 ⟨rfl,hb3⟩;rw[hd];go_wp2_with fail;refine (oD _).mono ?_;rintro e4 w4 ⟨rfl,hb4⟩;go_wp2;go_ret;exact ⟨rfl,HL.out.oz.trans ((hb3.trans (hb4.mono hb3.size)).mono HL.out.oz.size)⟩
    |false=>
     have hnb:=WI HR.out hd;have HL2:=ah (HL.out.below hb2);obtain ⟨c0,c1,c8,cf8⟩:=Cw HL2.out;have hwn:IntKind.i64.wrap (now+1)=now+1:=iG _ (by omega);rw[vk] at hwn;have HL3:=ah (ZO HL2.out (now+1));obtain ⟨N,hN⟩:∃N:Int,N=12+(q.toNat:Int)%64:=⟨_,rfl⟩
     have ann:12<=N/\N<=1000:=by omega
     have HNN:=ah hN;have hq8:=q.toNat_lt;have hq1:IntKind.i64.wrap (q.toNat:Int)=(q.toNat:Int):=iG _ (by omega);have hq2:(q.toNat:Int).tmod 64=(q.toNat:Int)%64:=Int.tmod_eq_emod_of_nonneg (by omega);rw[vk] at hq1;clear HD HL HL2 hb2 hN hq8;go_wp2_with fail;generalize w2.setCell ⟨g,8,none⟩ (.int .i64 (now+1))=w4 at*
     go_loopw [11] (fun i wr=>aiN w g ga gb cf a b (k+2*j) (now+1) N i wr) (fun i _=>2-(intOf i).toNat)
     case atStart=>exact .inl ⟨false,ga,gb,a,b,rfl,.inl ⟨rfl,rfl,rfl,rfl,rfl⟩,HL3.out⟩
     case round=>
      clear HL3 c0 c1 c8 cf8;rcases hrel with ⟨sw,gA,gB,A',B',hi,hh,hLk⟩|⟨rfl,hLk⟩
      .have PH:=adX HR.out.p (by omega) (by omega) (by omega) hh;have HN:=ah (fun (V:World) (hL:vO w sw g gA gB cf (dL cf A' (now+1) N) (gq cf A' B' (now+1) N) (k+2*j+(if sw=true then 1 else 0)+1) (now+1) V)=>Tw hh hL);have HG:=ah (aiL hLk PH (by omega) (by omega) (by omega) N (by omega));have HPG:=ah (PH.ko (by omega) (by omega) (now+1) N (by omega));obtain ⟨A1,c1,hs1⟩:=aa7 hLk;obtain ⟨R,hRR⟩:∃R,dL cf A' (now+1) N=R:=⟨_,rfl⟩
       have hRS:R.sent=A'.sent/\gq cf A' B' (now+1) N=B'\/∃y,y≠ []/\R.sent=A'.sent++ [y]/\gq cf A' B' (now+1) N=lU cf B' (now+1) y:=by
        rw[<-hRR];unfold gq dL;dsimp only;split
        .exact .inl ⟨rfl,rfl⟩
        .rename_i hx;exact .inr ⟨_,hx,rfl,rfl⟩
       rw[hRR] at HG HPG HN;rw[HNN.out] at HG;have HRR:=ah hRR;have HRS:=ah hRS;have hsl:A'.sent.length<=99000:=by have:=PH.la;omega
       clear hh hLk PH hRR hRS;cases sw
       all_goals
        simp only[Od,GA,mq,l7,kE] at hs1 HG HN hi;subst hi;go_wp2_with fail;refine HG.out.mono ?_;rintro e4 w5 ⟨b5,rfl,hL5⟩;rcases HRS.out with ⟨hs,hB⟩|⟨y,hy,hs,hB⟩
        .obtain ⟨A2,c2,hs2⟩:=aa7 hL5;rw[hB] at HN;rw[hs] at hs2;simp only[Od,mq,l7,kE] at hs2;have HL5:=ah hL5;clear hs1 hB hs HG hL5;go_wp2_with fail;exact ⟨HN.out _ (HL5.out.more (vQ _)),by simp[intOf]⟩
        .obtain ⟨ad,c3,Ay,cy,hs3,hcj,HV⟩:=aiM hL5.swap HPG.out.swap (by omega) (by omega) (by omega) (by omega) (j:=A'.sent.length) (y:=y) (by rw[hs];simp);have hLe:R.sent.length=A'.sent.length+1:=by rw[hs];simp
         rw[hB] at HN;simp only[Od,GA,Bool.not_true,qK,mq,l7,kE] at hs3 HV;have HVV:=ah HV;clear hs1 hB hs HG hL5 HV;generalize R.sent.length=L at*;generalize A'.sent.length=kk at*;have hk0:(0:Int)<=(kk:Int):=by omega
         have hk1:(kk:Int)<(L:Int):=by omega
         have hk2:decide ((kk:Int)<(L:Int))=true:=iK hk1;have hL9:L<=99001:=by omega
         clear hLe;go_wp2_with fail;refine (HVV.out _ (bS _ _)).mono ?_;rintro e5 w6 ⟨rfl,hL6⟩;have HL6:=ah hL6.swap;clear hL6 HVV hs3 hcj;go_wp2_with fail;exact ⟨HN.out _ HL6.out,by simp[intOf]⟩
      .have P2:tZ cf (ZJ cf a b (now+1) N) (ZK cf a b (now+1) N) (451+1+1) (k+2*j+1+1) (6*k+9*j+9+9):=((HR.out.p.half (by omega) (by omega) (by omega)).swap.half (by omega) (by omega) (by omega)).swap;have HFA:=ah (GG hLk P2.oa);have HFB:=ah (GG hLk.swap P2.ob);have HST:=ah (fun (ha:(ZJ cf a b (now+1) N).s.failed=false) (hb:(ZK cf a b (now+1) N).s.failed=false)=>HR.out.step (n:=N) HC.out.1 HC.out.2.1 HC.out.2.2 (by omega) hn0 (by omega) ann.1 ha hb);obtain ⟨c0,c1,_,_⟩:=Cw hLk;have HLk:=ah hLk;clear P2 hLk;go_wp2_with fail;refine (HFA.out _ (bS _ _)).mono ?_;rintro e5 w6 ⟨rfl,hb6⟩;have KR:=ah hb6;obtain ⟨d0,d1,_,_⟩:=Cw (HLk.out.below hb6);clear hb6 HFA c0 c1;cases hfa:(ZJ cf a b (now+1) N).s.failed with
       |true=>
        go_wp2_with fail;refine (oD _).mono ?_;rintro e6 w7 ⟨rfl,qT⟩;go_wp2;go_ret;exact ⟨rfl,HLk.out.oz.trans ((KR.out.trans (qT.mono KR.out.size)).mono HLk.out.oz.size)⟩
       |false=>
        go_wp2_with fail;refine (HFB.out _ KR.out).mono ?_;rintro e6 w7 ⟨rfl,qT⟩;have HB7:=ah qT;clear qT HFB d0 d1;cases hfb:(ZK cf a b (now+1) N).s.failed with
        |true=>
         go_wp2_with fail;refine (oD _).mono ?_;rintro e7 w8 ⟨rfl,OP⟩;go_wp2;go_ret;exact ⟨rfl,HLk.out.oz.trans ((HB7.out.trans (OP.mono HB7.out.size)).mono HLk.out.oz.size)⟩
        |false=>
         go_wp2_with fail;obtain ⟨m',hR',hle,hor⟩:=HST.out hfa hfb;have hm':m'+2<=m:=hor.resolve_left hnb;have q1:k+2*(j+1)=k+2*j+2:=by omega
         have q2:6*k+9*(j+1)=6*k+9*j+9:=by omega
         refine ⟨⟨j+1,ZJ cf a b (now+1) N,ZK cf a b (now+1) N,now+1,m',by go_num,by omega,by omega,?_,?_,by omega⟩,by simp[intOf];omega⟩
         .rw[q1];exact HLk.out.below HB7.out
         .rw[q1,q2];exact hR'
end Go.Proofs.YtbhiklnljiehiaaGreat
