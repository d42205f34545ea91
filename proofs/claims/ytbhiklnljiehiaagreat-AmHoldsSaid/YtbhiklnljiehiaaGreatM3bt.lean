/- law37: a link: grants. -/
import Derived.Test.YtbhiklnljiehiaaGreatM3br
import Derived.Test.YtbhiklnljiehiaaGreatM3bs
set_option maxHeartbeats 2000000
set_option maxRecDepth 100000
namespace Go.Proofs.YtbhiklnljiehiaaGreat
open RowKit Shelf Tryz
attribute [local go_sem] Oper.semAt_some
def GA (sw:Bool):Int:=if sw=true then 1 else 0
section
variable {w0 W W':World} {sw:Bool} {g ga gb na nb na' G J K:Nat} {c:Cf} {a b:En} {s:Sd} {r:Rc} {Fa Fb nQ:Fp} {v0 v1 u0 u1:Value} {now:Int}
theorem Tt (h:zn w0 sw g ga gb c a b na nb Fa Fb v0 v1 u0 u1 now W) (ho:fu c a.s K) (hK:K<=80000) (hr:wW c a.r) (t N:Int) (ht:t<=9223372036854775807) (hN:N<=9223372036854775807):
 Calls prog 18 #[.pointer (some ga),t,N] W fun e W'=>∃A cc nQ,e= .returned (.tuple #[.slice A (aF c a.s a.r t N).2.2.1.length cc,.int .i64 (aF c a.s a.r t N).2.2.2])/\
  zn w0 sw g ga gb c {a with s:=(aF c a.s a.r t N).1,r:=(aF c a.s a.r t N).2.1} b na nb nQ Fb v0 v1 u0 u1 now W'/\W'.ownsRow w0 5 1 (.slice A (aF c a.s a.r t N).2.2.1.length cc) (aF c a.s a.r t N).2.2.1.length (dz (aF c a.s a.r t N).2.2.1)/\
  (∀k,(Value.slice A (aF c a.s a.r t N).2.2.1.length cc).ownBlock=some k->¬nQ.b k/\¬Fb.b k)/\W.heap.size<=W'.heap.size:=by
 refine (Gy h.r.ea ho hK hr t N ht hN).mono ?_;rintro e W' ⟨v,rfl,hv,hG⟩;obtain ⟨nQ,hR,hb⟩:=hG.toR;have hv0:=bF hv h.r.oz.size;obtain ⟨A,cc,rfl,_⟩:=aY hv;refine ⟨A,cc,nQ,rfl,h.call hR,hv0,fun k hk=> ?_,hR.kp.size⟩;have h9:=(hv.lt k hk).1;exact ⟨fun e=>by have:=h.r.ea.lt k (h.r.ea.Wq k (hb k e));omega,fun e=>by have:=h.r.eb.lt k (h.r.eb.Wq k e);omega⟩
def ZL (w0:World) (sw:Bool) (g ga gb:Nat) (c:Cf) (a b:En) (na nb:Nat) (Fb:Fp) (v1 u0 u1:Value) (now:Int) (e:Ending) (W':World):Prop:=∃b' nQ v0',e= .returned (.bool b')/\zn w0 sw g ga gb c a b na nb nQ Fb v0' v1 u0 u1 now W'
theorem Dm (h:zn w0 sw g ga gb c a b na nb Fa Fb v0 v1 u0 u1 now W) (ho:fu c a.s K) (hK:K<=80000) (hr:wW c a.r) (ed:now<=9223372036854775807) (hl:a.sent.length<=100000) (N:Int) (hN:N<=9223372036854775807):
 Calls prog 14 #[.pointer (some g),.int .i64 (GA sw),N] W (ZL w0 sw g ga gb c (dL c a now N) b na nb Fb v1 u0 u1 now):=by
 obtain ⟨j0,hj0,hm0,hm1,hm2⟩:=vz uq;have HC:=ah (Tt (h.below (bS _ W).drew) ho hK hr now N ed hN);have hblk:=h.blk;unfold zy at hblk;unfold GA;cases sw with
 |false=>
  simp only[mq,l7] at hblk HC ⊢;have x0:W.cell? g=some (.pointer (some ga)):=hblk.cell 0;have x8:W.cell? ⟨g,8,none⟩=some (.int .i64 now):=hblk.cell 8;have y0:W.drew.cell? g=some (.pointer (some ga)):=x0;have y8:W.drew.cell? ⟨g,8,none⟩=some (.int .i64 now):=x8;clear hblk h;go_enter func14,ntmps14;go_upto_region 1 with fail
  go_cut [7,8] (fun s7 s8 wx=>∃A4 c4 wY,s7= .slice A4 (aF c a.s a.r now N).2.2.1.length c4/\s8= .int .i64 (aF c a.s a.r now N).2.2.2/\zn w0 false g ga gb c {a with s:=(aF c a.s a.r now N).1,r:=(aF c a.s a.r now N).2.1} b na nb wY Fb v0 v1 u0 u1 now wx/\wx.ownsRow w0 5 1 (.slice A4 (aF c a.s a.r now N).2.2.1.length c4) (aF c a.s a.r now N).2.2.1.length (dz (aF c a.s a.r now N).2.2.1)/\
   ∀k,(Value.slice A4 (aF c a.s a.r now N).2.2.1.length c4).ownBlock=some k->¬wY.b k/\¬Fb.b k)
  case first=>
   go_region_law (go_simp;(with_reducible refine HC.out.mono ?_);rintro e4 w4 ⟨A4,c4,wY,rfl,hL4,hv4,hb4,hz4⟩)
   all_goals
    go_wp2_with fail;go_meet;exact ⟨_,_,_,rfl,rfl,hL4,hv4,hb4⟩
  case rest=>
   obtain ⟨A4,c4,wY,rfl,rfl,hL4,hv4,hb4⟩:=hcut;obtain ⟨R,hR⟩:∃R,aF c a.s a.r now N=R:=⟨_,rfl⟩
   have hgE:dL c a now N= {a with s:=R.1,r:=R.2.1,sent:=if R.2.2.1= [] then a.sent else a.sent++ [R.2.2.1]}:=by unfold dL;rw[hR]
   rw[hR] at hL4 hv4 hb4 ⊢;have Rm:=ah hgE;clear HC hgE hR ho hr;obtain ⟨s1,r1,bs,er⟩:=R;dsimp only at hL4 hv4 hb4 ⊢;cases bs with
   |nil=>
    have HL:=ah hL4;clear hL4 hv4 hb4;go_wp2_with fail;go_ret;exact ⟨_,wY,v0,rfl,by rw[Rm.out];simpa using HL.out⟩
   |cons x t=>
    obtain ⟨vs,hvs⟩:=hL4.r.s0;obtain ⟨A0,c0,hv0,_,_⟩:=aY hvs.1;subst hv0;obtain ⟨m,hm⟩:∃m,(x::t).length=m+1:=⟨t.length,rfl⟩
    have hmn:((m:Int)+1==0)=false:=by simp;omega
    have TS:=(hL4.below ((bS _ wc).alloc (aL) (.cells #[.slice A4 (x::t).length c4] 31))).below (bS _ _).drew;have GB:(wc.alloc (.cells #[.slice A4 (x::t).length c4] 31)).drew.ownsRow w0.heap.size 31 1 (.slice A0 a.sent.length c0) a.sent.length vs:=World.ownsRow.drew' (hvs.1.alloc _);have hiA:(wc.alloc (.cells #[.slice A4 (x::t).length c4] 31)).drew.ownsRow w0.heap.size 5 1 (.slice A4 (x::t).length c4) (x::t).length (dz (x::t)):=World.ownsRow.drew' (hv4.alloc _);have HPU:=ah (fun (v':Value) (W':World) hown hg hb=>TS.r.aa0 (v':=v') (W':=W') GB hiA hb4 hown hg hb);have XJ:=ah GB;have Xu:=ah TS.blk;have HZ:=ah hL4.r.oz.size;have fC:=hL4.blk;unfold zy at fC;simp only[mq,l7] at fC;have x2:wc.cell? ⟨g,2,none⟩=some (.slice A0 a.sent.length c0):=fC.cell 2;have x2a:(wc.alloc (.cells #[.slice A4 (x::t).length c4] 31)).cell? ⟨g,2,none⟩=some (.slice A0 a.sent.length c0):=(fC.alloc _).cell 2;have x2b:(wc.alloc (.cells #[.slice A4 (x::t).length c4] 31)).drew.cell? ⟨g,2,none⟩=some (.slice A0 a.sent.length c0):=x2a;have hsz:=mZ wc (.cells #[.slice A4 (x::t).length c4] 31);have HS:=ah hsz;rw[hm] at HPU XJ Xu HS x2a x2b ⊢;clear hvs TS GB hiA hb4 hv4 hL4 fC hsz;go_upto_region 4 with fail
    go_cut [37] (fun s37 wx=>∃v',zn w0 false g ga gb c {a with s:=s1,r:=r1,sent:=a.sent++ [x::t]} b na nb wY Fb v' v1 u0 u1 now wx)
    case first=>
     go_region_law ((refine fA _ (by rfl) _ _ 37 (by rfl) w0 31 j0 (.slice none 0 0) 24 wE hj0 hm0 hm1 hm2 rfl (.slice A0 a.sent.length c0) a.sent.length vs (by rfl) XJ.out (wc.alloc (.cells #[.slice A4 (m+1) c4] 31)).heap.size (some ⟨wc,0,none⟩) 1 1 [.slice A4 (m+1) c4] (by rfl) (pG wc (.slice A4 (m+1) c4) 31) (by simp[Value.oneCell']) (by unfold maxLen;omega) (by omega) (by have:=HS.out;have:=HZ.out;simp;omega) ?_;intro v5 w5 hown5 dV hb5;obtain ⟨A5,c5,rfl,hs5,_⟩:=aY hown5;obtain ⟨hP,hg5⟩:=HPU.out _ w5 hown5 dV hb5;have vI:=hg5.trans Xu.out;have q2:=av.cell vI 2;have q3:=av.frozen vI 2;unfold zy at q2;simp at q2))
     all_goals
      have hL:zn w0 false g ga gb c {a with s:=s1,r:=r1,sent:=a.sent++ [x::t]} b na nb wY Fb (.slice A5 (a.sent.length+1) c5) v1 u0 u1 now (w5.setCell ⟨g,2,none⟩ (.slice A5 (a.sent.length+1) c5)):=⟨hP.cell 2 _,by
       have hB:=av.ay vI 2 (.slice A5 (a.sent.length+1) c5);unfold zy at hB ⊢;simpa using hB⟩
      go_wp2_with fail;go_meet;exact ⟨_,hL⟩
    case rest=>
     obtain ⟨v',hL⟩:=hcut;have HL:=ah hL;clear hL;go_wp2_with fail;go_ret;exact ⟨_,wY,v',rfl,by rw[Rm.out];simpa using HL.out⟩
 |true=>
  simp only[kE] at hblk HC ⊢;have x0:W.cell? ⟨g,1,none⟩=some (.pointer (some ga)):=hblk.cell 1;have x8:W.cell? ⟨g,8,none⟩=some (.int .i64 now):=hblk.cell 8;have y0:W.drew.cell? ⟨g,1,none⟩=some (.pointer (some ga)):=x0;have y8:W.drew.cell? ⟨g,8,none⟩=some (.int .i64 now):=x8;clear hblk h;go_enter func14,ntmps14;go_upto_region 1 with fail
  go_cut [7,8] (fun s7 s8 wx=>∃A4 c4 wY,s7= .slice A4 (aF c a.s a.r now N).2.2.1.length c4/\s8= .int .i64 (aF c a.s a.r now N).2.2.2/\zn w0 true g ga gb c {a with s:=(aF c a.s a.r now N).1,r:=(aF c a.s a.r now N).2.1} b na nb wY Fb v0 v1 u0 u1 now wx/\wx.ownsRow w0 5 1 (.slice A4 (aF c a.s a.r now N).2.2.1.length c4) (aF c a.s a.r now N).2.2.1.length (dz (aF c a.s a.r now N).2.2.1)/\
   ∀k,(Value.slice A4 (aF c a.s a.r now N).2.2.1.length c4).ownBlock=some k->¬wY.b k/\¬Fb.b k)
  case first=>
   go_region_law (go_simp;(with_reducible refine HC.out.mono ?_);rintro e4 w4 ⟨A4,c4,wY,rfl,hL4,hv4,hb4,hz4⟩)
   all_goals
    go_wp2_with fail;go_meet;exact ⟨_,_,_,rfl,rfl,hL4,hv4,hb4⟩
  case rest=>
   obtain ⟨A4,c4,wY,rfl,rfl,hL4,hv4,hb4⟩:=hcut;obtain ⟨R,hR⟩:∃R,aF c a.s a.r now N=R:=⟨_,rfl⟩
   have hgE:dL c a now N= {a with s:=R.1,r:=R.2.1,sent:=if R.2.2.1= [] then a.sent else a.sent++ [R.2.2.1]}:=by unfold dL;rw[hR]
   rw[hR] at hL4 hv4 hb4 ⊢;have Rm:=ah hgE;clear HC hgE hR ho hr;obtain ⟨s1,r1,bs,er⟩:=R;dsimp only at hL4 hv4 hb4 ⊢;cases bs with
   |nil=>
    have HL:=ah hL4;clear hL4 hv4 hb4;go_wp2_with fail;go_ret;exact ⟨_,wY,v0,rfl,by rw[Rm.out];simpa using HL.out⟩
   |cons x t=>
    obtain ⟨vs,hvs⟩:=hL4.r.s0;obtain ⟨A0,c0,hv0,_,_⟩:=aY hvs.1;subst hv0;obtain ⟨m,hm⟩:∃m,(x::t).length=m+1:=⟨t.length,rfl⟩
    have hmn:((m:Int)+1==0)=false:=by simp;omega
    have TS:=(hL4.below ((bS _ wc).alloc (aL) (.cells #[.slice A4 (x::t).length c4] 31))).below (bS _ _).drew;have GB:(wc.alloc (.cells #[.slice A4 (x::t).length c4] 31)).drew.ownsRow w0.heap.size 31 1 (.slice A0 a.sent.length c0) a.sent.length vs:=World.ownsRow.drew' (hvs.1.alloc _);have hiA:(wc.alloc (.cells #[.slice A4 (x::t).length c4] 31)).drew.ownsRow w0.heap.size 5 1 (.slice A4 (x::t).length c4) (x::t).length (dz (x::t)):=World.ownsRow.drew' (hv4.alloc _);have HPU:=ah (fun (v':Value) (W':World) hown hg hb=>TS.r.aa0 (v':=v') (W':=W') GB hiA hb4 hown hg hb);have XJ:=ah GB;have Xu:=ah TS.blk;have HZ:=ah hL4.r.oz.size;have fC:=hL4.blk;unfold zy at fC;simp only[kE] at fC;have x2:wc.cell? ⟨g,3,none⟩=some (.slice A0 a.sent.length c0):=fC.cell 3;have x2a:(wc.alloc (.cells #[.slice A4 (x::t).length c4] 31)).cell? ⟨g,3,none⟩=some (.slice A0 a.sent.length c0):=(fC.alloc _).cell 3;have x2b:(wc.alloc (.cells #[.slice A4 (x::t).length c4] 31)).drew.cell? ⟨g,3,none⟩=some (.slice A0 a.sent.length c0):=x2a;have hsz:=mZ wc (.cells #[.slice A4 (x::t).length c4] 31);have HS:=ah hsz;rw[hm] at HPU XJ Xu HS x2a x2b ⊢;clear hvs TS GB hiA hb4 hv4 hL4 fC hsz;go_upto_region 4 with fail
    go_cut [37] (fun s37 wx=>∃v',zn w0 true g ga gb c {a with s:=s1,r:=r1,sent:=a.sent++ [x::t]} b na nb wY Fb v' v1 u0 u1 now wx)
    case first=>
     go_region_law ((refine fA _ (by rfl) _ _ 37 (by rfl) w0 31 j0 (.slice none 0 0) 24 wE hj0 hm0 hm1 hm2 rfl (.slice A0 a.sent.length c0) a.sent.length vs (by rfl) XJ.out (wc.alloc (.cells #[.slice A4 (m+1) c4] 31)).heap.size (some ⟨wc,0,none⟩) 1 1 [.slice A4 (m+1) c4] (by rfl) (pG wc (.slice A4 (m+1) c4) 31) (by simp[Value.oneCell']) (by unfold maxLen;omega) (by omega) (by have:=HS.out;have:=HZ.out;simp;omega) ?_;intro v5 w5 hown5 dV hb5;obtain ⟨A5,c5,rfl,hs5,_⟩:=aY hown5;obtain ⟨hP,hg5⟩:=HPU.out _ w5 hown5 dV hb5;have vI:=hg5.trans Xu.out;have q2:=av.cell vI 3;have q3:=av.frozen vI 3;unfold zy at q2;simp at q2))
     all_goals
      have hL:zn w0 true g ga gb c {a with s:=s1,r:=r1,sent:=a.sent++ [x::t]} b na nb wY Fb (.slice A5 (a.sent.length+1) c5) v1 u0 u1 now (w5.setCell ⟨g,3,none⟩ (.slice A5 (a.sent.length+1) c5)):=⟨hP.cell 3 _,by
       have hB:=av.ay vI 3 (.slice A5 (a.sent.length+1) c5);unfold zy at hB ⊢;simpa using hB⟩
      go_wp2_with fail;go_meet;exact ⟨_,hL⟩
    case rest=>
     obtain ⟨v',hL⟩:=hcut;have HL:=ah hL;clear hL;go_wp2_with fail;go_ret;exact ⟨_,wY,v',rfl,by rw[Rm.out];simpa using HL.out⟩
end
section
variable {w0 W W':World} {sw:Bool} {g ga gb na nb na' G J K:Nat} {c:Cf} {a b:En} {s:Sd} {r:Rc} {Fa Fb nQ:Fp} {v0 v1 u0 u1:Value} {now:Int}
theorem Tp.WV {w0 W:World} {v:Value} {l:List (List UInt8)} {vs:List Value} (h:Tp w0 W v l vs) (hz:w0.heap.size<=W.heap.size):∃A cc,v= .slice A l.length cc/\jW W W A l.length cc vs l:=by
 obtain ⟨A,cc,rfl,hs,_⟩:=aY h.1;refine ⟨A,cc,rfl,hs,rfl,fun i p hi=> ?_⟩;obtain ⟨Ai,ci,e,hq⟩:=h.2 i p hi;exact ⟨Ai,ci,e,hq.more hz⟩
theorem WH {W:World} {base:Nat} {T:Nat->Nat} {v:Value} {outs:List (List UInt8)} (h:iO W base T v outs):∃A cc vs,v= .slice A outs.length cc/\jW W W A outs.length cc vs outs:=by
 obtain ⟨vs,h1,_,h3⟩:=h;obtain ⟨A,cc,rfl,hs,_⟩:=aY h1;refine ⟨A,cc,vs,rfl,hs,rfl,fun i p hi=> ?_⟩;obtain ⟨vi,e,ho,_⟩:=h3 i p hi;obtain ⟨Ai,ci,e2,hq,_⟩:=aY ho;exact ⟨Ai,ci,by rw[<-e2];exact e,hq⟩
theorem jW.aa4 {w:World} {ad:Addr} {n c a l:Nat} {vs:List Value} {ps:List (List UInt8)} {B:Nat} (h:jW w B (some ad) n c vs ps) (hl:a+l<=n):
 jW w B (if c=a then some ad else some (ad.add a)) l (c-a) ((vs.drop a).take l) ((ps.drop a).take l):=by
 have hcap:=h.sl.cap;have hmx:=h.sl.mx;have hvl:=h.sl.len;have hpl:=h.len;refine ⟨⟨by rw[kz,kC];omega,by omega,by omega,fun h0=> ?_⟩,by rw[kz,kC];omega,fun i q hq=> ?_⟩
 ·obtain ⟨Ew,e,hb,hc⟩:=h.sl.at_ (by omega);cases e;rw[aP (by omega)];refine ⟨_,rfl,by rw[block_add];exact hb,fun i u hu=> ?_⟩;rw[pW] at hu;split at hu
  ·rw[vg] at hu;rw[add_add];exact hc _ u hu
  ·cases hu
 ·rw[pW] at hq;split at hq
  ·rename_i hil;rw[vg] at hq;obtain ⟨Ai,ci,e,hs⟩:=h.each _ _ hq;exact ⟨Ai,ci,by rw[pW,bD hil,vg];exact e,hs⟩
  ·cases hq
theorem Ob (h:zn w0 sw g ga gb c a b na nb Fa Fb v0 v1 u0 u1 now W) (ho:fu c a.s K) (hK:K<=90000) (hr:wW c a.r) (hn:na<maxLen) (t:Int) (ht:t<=9223372036854775807) (A:Option Addr) (m cc:Nat) (bs:List UInt8)
 (hs:∀W2,Kept (fun k o=>Fa k/\(U8 o->Fa.b k)) W W2->Sl W2 W2.heap.size A m cc (dz bs)) (hsm:m<=1000000):
 Calls prog 19 #[.pointer (some ga),t,.slice A m cc] W fun e W'=>∃Ao co vs na' nQ,e= .returned (.tuple #[.slice Ao (aS c a.s a.r t bs).2.2.1.length co,.int .i64 (aS c a.s a.r t bs).2.2.2])/\na'<=na+1/\
  zn w0 sw g ga gb c {a with s:=(aS c a.s a.r t bs).1,r:=(aS c a.s a.r t bs).2.1} b na' nb nQ Fb v0 v1 u0 u1 now W'/\jW W' W' Ao (aS c a.s a.r t bs).2.2.1.length co vs (aS c a.s a.r t bs).2.2.1:=by
 refine (Bp h.r.ea ho hK hr hn t ht A m cc bs hs hsm).mono ?_;rintro e W' ⟨v,n',F',T,rfl,hn',hR,hO,_,_⟩;obtain ⟨Ao,co,vs,rfl,hsl⟩:=WH hO;exact ⟨Ao,co,vs,n',F',rfl,hn',h.call hR,hsl⟩
def adT (w0:World) (sw:Bool) (g ga gb:Nat) (c:Cf) (a b:En) (na nb:Nat) (Fb:Fp) (v0 v1 u0 u1:Value) (now:Int) (e:Ending) (W':World):Prop:=∃na' nQ,e= .returned (.bool true)/\na'<=na+1/\zn w0 sw g ga gb c a b na' nb nQ Fb v0 v1 u0 u1 now W'
theorem GD (h:zn w0 sw g ga gb c a b na nb Fa Fb v0 v1 u0 u1 now W) (ho:fu c a.s K) (hK:K<=90000) (hr:wW c a.r) (hn:na<maxLen) (ed:now<=9223372036854775807) (A:Option Addr) (m cc:Nat) (bs:List UInt8)
 (hs:∀W2,Kept (fun k o=>Fa k/\(U8 o->Fa.b k)) W W2->Sl W2 W2.heap.size A m cc (dz bs)) (hsm:m<=1000000) (_hlb:b.iA.length<=100000)
 (hle:a.out+(aS c a.s a.r now bs).2.2.1.length<=b.iA.length) (heq:(aS c a.s a.r now bs).2.2.1=(b.iA.drop a.out).take (aS c a.s a.r now bs).2.2.1.length):
 Calls prog 15 #[.pointer (some g),.int .i64 (GA sw),.slice A m cc] W (adT w0 sw g ga gb c (lU c a now bs) b na nb Fb v0 v1 u0 u1 now):=by
 have HC:=ah (Ob (h.below (bS _ W).drew) ho hK hr hn now ed A m cc bs (fun W2 hk=>hs W2 ((Kept.eZ (bS _ W).drew).trans hk)) hsm);have hblk:=h.blk;unfold zy at hblk;unfold GA;obtain ⟨R,hR⟩:∃R,aS c a.s a.r now bs=R:=⟨_,rfl⟩
 have hgE:lU c a now bs= {a with s:=R.1,r:=R.2.1,out:=a.out+R.2.2.1.length}:=by unfold lU;rw[hR]
 rw[hR] at HC hle heq;have Rm:=ah hgE;clear hgE hR;have HEQ:=ah heq;clear heq ho hr hs hsm;cases sw with
 |false=>
  simp only[mq,l7] at hblk HC ⊢;have x0:W.cell? g=some (.pointer (some ga)):=hblk.cell 0;have x8:W.cell? ⟨g,8,none⟩=some (.int .i64 now):=hblk.cell 8;have y0:W.drew.cell? g=some (.pointer (some ga)):=x0;have y8:W.drew.cell? ⟨g,8,none⟩=some (.int .i64 now):=x8;clear hblk h;go_enter func15,ntmps15;go_upto_region 1 with fail
  go_cut [7,8] (fun s7 s8 wx=>∃Ao co vs na' nQ,s7= .slice Ao R.2.2.1.length co/\s8= .int .i64 R.2.2.2/\na'<=na+1/\zn w0 false g ga gb c {a with s:=R.1,r:=R.2.1} b na' nb nQ Fb v0 v1 u0 u1 now wx/\jW wx wx Ao R.2.2.1.length co vs R.2.2.1)
  case first=>
   go_region_law (go_simp;(with_reducible refine HC.out.mono ?_);rintro e4 w4 ⟨Ao,co,vs,n4,wY,rfl,TH,hL4,hs4⟩)
   all_goals
    go_wp2_with fail;go_meet;exact ⟨_,_,_,_,_,rfl,rfl,TH,hL4,hs4⟩
  case rest=>
   obtain ⟨Ao,co,vs,n4,wY,rfl,rfl,TH,hL4,hs4⟩:=hcut;obtain ⟨ys,hys⟩:=hL4.r.i1;obtain ⟨Ai,ci,hu1,hsi⟩:=hys.WV hL4.r.oz.size;subst hu1;have fC:=hL4.blk;unfold zy at fC;simp only[mq,l7] at fC;have x6:wc.cell? ⟨g,6,none⟩=some (.int .i64 a.out):=fC.cell 6;have x5:wc.cell? ⟨g,5,none⟩=some (.slice Ai b.iA.length ci):=fC.cell 5;have f6:=fC.frozen 6;have hcap:=hs4.sl.cap;have hmx:=hs4.sl.mx;have hcap2:=hsi.sl.cap;have anc:=hsi.sl.mx;obtain ⟨s1,r1,outs,er⟩:=R;dsimp only at hL4 hs4 hle HEQ hcap ⊢;have hgt:decide ((b.iA.length:Int)<(a.out:Int)+(outs.length:Int))=false:=iP (by omega);have HLM:=ah hL4;have HN4:=ah TH;have Qg:=ah (fun (w9:World) (yF:Below wc wc w9)=>(show w9.cell? ⟨g,6,none⟩=some (.int .i64 a.out)/\w9.frozen? ⟨g,6,none⟩=false from ⟨(fC.below yF fC.lt).cell 6,(fC.below yF fC.lt).frozen 6⟩));cases Ai with
   |none=>
    have h0:b.iA.length=0:=by
     rcases oV b.iA.length with e|e
     ·exact e
     ·obtain ⟨ad,e2,_⟩:=hsi.sl.at_ e;cases e2
    have ho0:outs= []:=nV (by omega);subst ho0;have ha0:a.out=0:=by simp at hle;omega
    have Jf:=rF Ao none 0 co 0 0 vs [] [] [] wc hs4 ⟨⟨rfl,aL,by omega,fun h=>by omega⟩,rfl,fun i p hi=>by simp at hi⟩;rw[beq_self_eq_true] at Jf;have HLI:=ah Jf;have hci:ci=0:=by
     rcases hys.1.2 with ⟨e,_⟩|⟨q,cap,cur,e,_⟩
     ·injection e with _ _ e3
     ·cases e
    subst hci;clear Jf hs4 hsi hys hL4 TH fC;rw[h0] at x5 hgt;rw[ha0] at x6 Qg hgt;go_wp2_with (go_at_call 47;refine HLI.out.mono ?_;rintro e9 w9 ⟨rfl,yF⟩;obtain ⟨q6,r6⟩:=Qg.out _ yF);go_ret;have hM:=HLM.out.below yF;refine ⟨n4,wY,rfl,HN4.out,?_⟩;rw[Rm.out];exact ⟨(hM.r.cell 6 _).Tq (a.out+([]:List (List UInt8)).length) b.out,by
     have hB:=hM.blk.ay 6 (.int .i64 0);unfold zy at hB ⊢;simpa[ha0] using hB⟩
   |some ad=>
    have Jf:=rF Ao _ _ co _ _ vs _ outs _ wc hs4 (hsi.aa4 hle);rw[<-HEQ.out,beq_self_eq_true] at Jf;obtain ⟨AA,hif⟩:∃AA,(if ci=a.out then some ad else some (ad.add a.out))=AA:=⟨_,rfl⟩
    rw[hif] at Jf;have HLI:=ah Jf;clear Jf hs4 hsi hys hL4 TH fC;go_wp2_with (go_at_call 47;refine HLI.out.mono ?_;rintro e9 w9 ⟨rfl,yF⟩;obtain ⟨q6,r6⟩:=Qg.out _ yF);go_ret;have hM:=HLM.out.below yF;refine ⟨n4,wY,rfl,HN4.out,?_⟩;rw[Rm.out];exact ⟨(hM.r.cell 6 _).Tq (a.out+outs.length) b.out,by
     have hB:=hM.blk.ay 6 (.int .i64 ((a.out:Int)+(outs.length:Int)));unfold zy at hB ⊢;simpa using hB⟩
 |true=>
  simp only[kE] at hblk HC ⊢;have x0:W.cell? ⟨g,1,none⟩=some (.pointer (some ga)):=hblk.cell 1;have x8:W.cell? ⟨g,8,none⟩=some (.int .i64 now):=hblk.cell 8;have y0:W.drew.cell? ⟨g,1,none⟩=some (.pointer (some ga)):=x0;have y8:W.drew.cell? ⟨g,8,none⟩=some (.int .i64 now):=x8;clear hblk h;go_enter func15,ntmps15;go_upto_region 1 with fail
  go_cut [7,8] (fun s7 s8 wx=>∃Ao co vs na' nQ,s7= .slice Ao R.2.2.1.length co/\s8= .int .i64 R.2.2.2/\na'<=na+1/\zn w0 true g ga gb c {a with s:=R.1,r:=R.2.1} b na' nb nQ Fb v0 v1 u0 u1 now wx/\jW wx wx Ao R.2.2.1.length co vs R.2.2.1)
  case first=>
   go_region_law (go_simp;(with_reducible refine HC.out.mono ?_);rintro e4 w4 ⟨Ao,co,vs,n4,wY,rfl,TH,hL4,hs4⟩)
   all_goals
    go_wp2_with fail;go_meet;exact ⟨_,_,_,_,_,rfl,rfl,TH,hL4,hs4⟩
  case rest=>
   obtain ⟨Ao,co,vs,n4,wY,rfl,rfl,TH,hL4,hs4⟩:=hcut;obtain ⟨ys,hys⟩:=hL4.r.i1;obtain ⟨Ai,ci,hu1,hsi⟩:=hys.WV hL4.r.oz.size;subst hu1;have fC:=hL4.blk;unfold zy at fC;simp only[kE] at fC;have x6:wc.cell? ⟨g,7,none⟩=some (.int .i64 a.out):=fC.cell 7;have x5:wc.cell? ⟨g,4,none⟩=some (.slice Ai b.iA.length ci):=fC.cell 4;have f6:=fC.frozen 7;have hcap:=hs4.sl.cap;have hmx:=hs4.sl.mx;have hcap2:=hsi.sl.cap;have anc:=hsi.sl.mx;obtain ⟨s1,r1,outs,er⟩:=R;dsimp only at hL4 hs4 hle HEQ hcap ⊢;have hgt:decide ((b.iA.length:Int)<(a.out:Int)+(outs.length:Int))=false:=iP (by omega);have HLM:=ah hL4;have HN4:=ah TH;have Qg:=ah (fun (w9:World) (yF:Below wc wc w9)=>(show w9.cell? ⟨g,7,none⟩=some (.int .i64 a.out)/\w9.frozen? ⟨g,7,none⟩=false from ⟨(fC.below yF fC.lt).cell 7,(fC.below yF fC.lt).frozen 7⟩));cases Ai with
   |none=>
    have h0:b.iA.length=0:=by
     rcases oV b.iA.length with e|e
     ·exact e
     ·obtain ⟨ad,e2,_⟩:=hsi.sl.at_ e;cases e2
    have ho0:outs= []:=nV (by omega);subst ho0;have ha0:a.out=0:=by simp at hle;omega
    have Jf:=rF Ao none 0 co 0 0 vs [] [] [] wc hs4 ⟨⟨rfl,aL,by omega,fun h=>by omega⟩,rfl,fun i p hi=>by simp at hi⟩;rw[beq_self_eq_true] at Jf;have HLI:=ah Jf;have hci:ci=0:=by
     rcases hys.1.2 with ⟨e,_⟩|⟨q,cap,cur,e,_⟩
     ·injection e with _ _ e3
     ·cases e
    subst hci;clear Jf hs4 hsi hys hL4 TH fC;rw[h0] at x5 hgt;rw[ha0] at x6 Qg hgt;go_wp2_with (go_at_call 47;refine HLI.out.mono ?_;rintro e9 w9 ⟨rfl,yF⟩;obtain ⟨q6,r6⟩:=Qg.out _ yF);go_ret;have hM:=HLM.out.below yF;refine ⟨n4,wY,rfl,HN4.out,?_⟩;rw[Rm.out];exact ⟨(hM.r.cell 7 _).Tq (a.out+([]:List (List UInt8)).length) b.out,by
     have hB:=hM.blk.ay 7 (.int .i64 0);unfold zy at hB ⊢;simpa[ha0] using hB⟩
   |some ad=>
    have Jf:=rF Ao _ _ co _ _ vs _ outs _ wc hs4 (hsi.aa4 hle);rw[<-HEQ.out,beq_self_eq_true] at Jf;obtain ⟨AA,hif⟩:∃AA,(if ci=a.out then some ad else some (ad.add a.out))=AA:=⟨_,rfl⟩
    rw[hif] at Jf;have HLI:=ah Jf;clear Jf hs4 hsi hys hL4 TH fC;go_wp2_with (go_at_call 47;refine HLI.out.mono ?_;rintro e9 w9 ⟨rfl,yF⟩;obtain ⟨q6,r6⟩:=Qg.out _ yF);go_ret;have hM:=HLM.out.below yF;refine ⟨n4,wY,rfl,HN4.out,?_⟩;rw[Rm.out];exact ⟨(hM.r.cell 7 _).Tq (a.out+outs.length) b.out,by
     have hB:=hM.blk.ay 7 (.int .i64 ((a.out:Int)+(outs.length:Int)));unfold zy at hB ⊢;simpa using hB⟩
end
def evC (what:Int) (who:Bool) (n pick:UInt8) (A:Option Addr) (m cc:Nat):Array Value:= #[what,.bool who,.int .u8 n.toNat,.int .u8 pick.toNat,.slice A m cc]
def vO (w0:World) (sw:Bool) (g ga gb:Nat) (c:Cf) (a b:En) (M:Nat) (now:Int) (W:World):Prop:=∃na nb Fa Fb v0 v1 u0 u1,na<=M/\nb<=M/\zn w0 sw g ga gb c a b na nb Fa Fb v0 v1 u0 u1 now W
theorem vO.swap {w0 W:World} {sw:Bool} {g ga gb M:Nat} {c:Cf} {a b:En} {now:Int} (h:vO w0 sw g ga gb c a b M now W):vO w0 (!sw) g gb ga c b a M now W:=by
 obtain ⟨na,nb,Fa,Fb,v0,v1,u0,u1,h1,h2,h3⟩:=h;exact ⟨_,_,_,_,_,_,_,_,h2,h1,h3.swap⟩
theorem vO.below {w0 W W':World} {sw:Bool} {g ga gb M:Nat} {c:Cf} {a b:En} {now:Int} (h:vO w0 sw g ga gb c a b M now W) (hb:Below W W W'):vO w0 sw g ga gb c a b M now W':=by
 obtain ⟨na,nb,Fa,Fb,v0,v1,u0,u1,h1,h2,h3⟩:=h;exact ⟨_,_,_,_,_,_,_,_,h1,h2,h3.below hb⟩
theorem vO.more {w0 W:World} {sw:Bool} {g ga gb M M':Nat} {c:Cf} {a b:En} {now:Int} (h:vO w0 sw g ga gb c a b M now W) (hM:M<=M'):vO w0 sw g ga gb c a b M' now W:=by
 obtain ⟨na,nb,Fa,Fb,v0,v1,u0,u1,h1,h2,h3⟩:=h;exact ⟨_,_,_,_,_,_,_,_,gG h1 hM,gG h2 hM,h3⟩
section
variable {w0 W W':World} {sw:Bool} {g ga gb na nb na' G J K M:Nat} {c:Cf} {a b:En} {s:Sd} {r:Rc} {Fa Fb nQ:Fp} {v0 v1 u0 u1:Value} {now:Int}
theorem Qs (h:zn w0 sw g ga gb c a b na nb Fa Fb v0 v1 u0 u1 now W) (ho:fu c a.s K) {A:Option Addr} {m cc:Nat} {x:List UInt8} (hx:Sl W W A m cc (dz x)):
 Calls prog 21 #[.pointer (some ga),.slice A m cc] W fun e W'=>∃nQ,e= .returned (.int .i64 (bV c a.s x).2)/\zn w0 sw g ga gb c {a with s:=(bV c a.s x).1,r:=a.r} b na nb nQ Fb v0 v1 u0 u1 now W'/\∀k,k<W.heap.size->¬Fa k->W'.heap[k]? =W.heap[k]? :=by
 refine (Dk h.r.ea ho hx).mono ?_;rintro e W' ⟨rfl,hG⟩;obtain ⟨nQ,hR,_⟩:=hG.toR;exact ⟨nQ,rfl,h.call hR,fun k hl hn=>kg hR.kp hl fun o e=>hn e.1⟩
def aiF (w0:World) (sw:Bool) (g ga gb:Nat) (c:Cf) (R:En × En × Int) (M:Nat) (e:Ending) (W':World):Prop:=e= .returned (.bool true)/\vO w0 sw g ga gb c R.1 R.2.1 M R.2.2 W'
end
end Go.Proofs.YtbhiklnljiehiaaGreat
