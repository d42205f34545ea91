/- law37: a link: step (true). -/
import Derived.Test.YtbhiklnljiehiaaGreatM1bw
namespace Go.Proofs.YtbhiklnljiehiaaGreat
section
open Go.RowKit Go.Shelf
attribute [local go_sem] Oper.semAt_some
section
variable {w0 W W':World} {g ga gb na nb na' G J K M:Nat} {c:Cf} {a b:En} {s:Sd} {r:Rc} {Fa Fb kD:Fp} {v0 v1 u0 u1:Value} {now:Int}
set_option maxRecDepth 100000 in
set_option maxHeartbeats 4000000 in
theorem U5 (h:sO w0 true g ga gb c a b na nb Fa Fb v0 v1 u0 u1 now W) (P:yu c a b G J K) (hna:na≤M) (hnb:nb≤M) (hM:M≤100000) (hG:G<511) (hK:K≤70000) (hJ:J≤99000) (zb:0≤now) (dM:now≤9223372036854775800) (what:Int) (n pick:UInt8)
 {A:Option Addr} {m cc:Nat} {x:List UInt8} (hx0:Sl w0 w0.heap.size A m cc (bQ x)) (Ju:x.length≤60):
 Calls Tryz.prog 12 #[.pointer (some ⟨g,0,none⟩),.agg (OB what true n pick A m cc)] W (Wm w0 true g ga gb c (kP c a b now what n pick x) (M+1)):=by
 obtain ⟨j0,hj0,hm0,hm1,hm2⟩:=info_parts nN;have hlen:x.length=m:=by simpa using hx0.len
 have hx:=hx0.below h.r.lN;have HX0:=ah hx0;have hz:=h.r.lN.size;have bev:=au.new W 33 (OB what true n pick A m cc);have hL:=h.below ((Below.refl _ W).alloc (aN) (.cells (OB what true n pick A m cc) 33));have hxL:=hx.below ((Below.refl w0.heap.size W).alloc hz (.cells (OB what true n pick A m cc) 33));have hgl:=h.blk.lt;have HNF:=ah (fun e=>by have:=h.r.ea.lt W.heap.size e;omega:¬Fa W.heap.size);have HZ1:=ah (show (W.alloc (.cells (OB what true n pick A m cc) 33)).heap.size=W.heap.size+1 by simp);have Zf:=P.step hG (by omega) (now:=now) (by omega) what n pick (x:=x) Ju;have hsn:=sQ c a b now what n pick x;have hsb:=Ml c a b now what n pick x;obtain ⟨S,hS⟩:∃S,kP c a b now what n pick x=S:=⟨_,rfl⟩
 rw[hS] at Zf hsn hsb ⊢;have zW:=ah Zf;have Zg:=ah hS;have HP:=ah P;have Gv:=ah hL;have HX:=ah hxL;have Rv:=ah bev;unfold OB at*;clear h hx hx0 Zf hS P hL hxL bev;go_enter Tryz.func12,Tryz.ntmps12
 go_upto_block 0 with (fail)
 go_cut [6] from 11 to 95 (fun s6 wx=>CZ w0 true g ga gb c S.1 S.2.1 (M+1) S.2.2 wx)
 case first=>
  have hblk:=Gv.out.blk;unfold uU at hblk;simp only[if_true] at hblk;have p0:=hblk.cell 1;have p8:=hblk.cell 8;have p8f:=hblk.frozen 8;simp only[List.getElem?_toArray,List.getElem?_cons_succ,List.getElem?_cons_zero] at p0 p8;have ev2:=Rv.out.cell 2;have ev3:=Rv.out.cell 3;have ev4:=Rv.out.cell 4;simp only[List.getElem?_toArray,List.getElem?_cons_succ,List.getElem?_cons_zero] at ev2 ev3 ev4;generalize W.alloc (.cells #[.int .i64 what,.bool true,.int .u8 n.toNat,.int .u8 pick.toNat,.slice A m cc] 33)=W1 at*;have p0':W1.drew.cell? ⟨g,1,none⟩=some (.pointer (some ⟨ga,0,none⟩)):=p0;have p8':W1.drew.cell? ⟨g,8,none⟩=some (.int .i64 now):=p8;have aip:W1.drew.frozen? ⟨g,8,none⟩=false:=p8f;have aiq:W1.drew.cell? ⟨W.heap.size,2,none⟩=some (.int .u8 n.toNat):=ev2;have air:W1.drew.cell? ⟨W.heap.size,3,none⟩=some (.int .u8 pick.toNat):=ev3;have Zh:W1.drew.cell? ⟨W.heap.size,4,none⟩=some (.slice A m cc):=ev4;have HEL:=ah (show W.heap.size<W1.drew.heap.size from Rv.out.lt);have hn8:=n.toNat_lt;have hpk:=pick.toNat_lt;have hnw:IntKind.i64.wrap (n.toNat:Int)=(n.toNat:Int):=IntWalk.i64_in _ (by omega);have hpw:IntKind.i64.wrap (pick.toNat:Int)=(pick.toNat:Int):=IntWalk.i64_in _ (by omega);rw[IntKind.wrap_i64] at hnw hpw;by_cases N7:what=0
  ·subst N7;have qE:=Zg.out;unfold kP at qE;rw[if_pos rfl] at qE;have lX:=ah qE.symm;have hxs:Sl W1.drew W1.drew.heap.size A m cc (bQ x):=(HX.out.below (Below.refl _ W1).drew).more (by have:=Gv.out.r.lN.size;exact this);have HC:=ah (CG (Gv.out.below (Below.refl _ W1).drew) HP.out.oa hxs);clear qE hblk hsn hsb;go_upto_region 7 with (fail)
   go_cut [35] from 25 to 34 (fun s35 wx=>s35= .bool (decide ((aW c a.s x).2=0))∧∃kD,sO w0 true g ga gb c {a with s:=(aW c a.s x).1,r:=a.r} b na nb kD Fb v0 v1 u0 u1 now wx∧Below w0.heap.size w0 wx∧wx.cell? ⟨W.heap.size,4,none⟩=some (.slice A m cc))
   case first=>
    have aiu:((aW c a.s x).2==0)=decide ((aW c a.s x).2=0):=by rw[Bool.eq_iff_iff];simp
    go_region_law (first
     |(go_simp;(with_reducible refine HC.out.mono ?_);rintro e4 w4 ⟨qB,rfl,hL4,hk4⟩)
     |(go_simp;(with_reducible refine (kZ _ _).mono ?_);rintro e5 w5 ⟨rfl,rfl⟩))
    all_goals
     go_wp2_with fail;go_meet;exact ⟨rfl,qB,hL4,hL4.r.lN,(World.cell?_of_block (a:=⟨W.heap.size,4,none⟩) (hk4 W.heap.size HEL.out HNF.out)).trans Zh⟩
   case rest=>
    obtain ⟨rfl,qB,hL4,hb4,Zi⟩:=hcut;clear HC;by_cases hsub:(aW c a.s x).2=0
    ·obtain ⟨z1,z2⟩:=qC (c:=c) hsub;rw[decide_eq_true hsub];have hS2:S=({a with s:=eG a.s x,iD:=a.iD++ [x]},b,now):=by rw[lX.out];unfold qD;rw[if_pos hsub]
     have HS2:=ah hS2;rw[z1] at hL4;dsimp only at hL4;clear z1 hS2 hsub;have hil:=HP.out.ia;obtain ⟨vs,hvs⟩:=hL4.r.i0;obtain ⟨A0,c0,hv0,_,_⟩:=aS hvs.1;subst hv0;have Rw:Value.slice A m cc=Value.slice A x.length cc:=by rw[hlen]
     have Jp:=(hL4.below ((Below.refl _ wc).alloc (aN) (.cells #[.slice A m cc] 31))).below (Below.refl _ _).drew;have uV:(wc.alloc (.cells #[.slice A m cc] 31)).drew.ownsRow w0.heap.size 31 1 (.slice A0 a.iD.length c0) a.iD.length vs:=World.ownsRow.drew' (hvs.1.alloc _);have hxA:Sl (wc.alloc (.cells #[.slice A m cc] 31)).drew w0.heap.size A x.length cc (bQ x):=by
      have h1:=HX0.out.below Jp.r.lN;rw[hlen];exact h1
     have Rs:=ah (fun (v':Value) (W':World) hown hg hb=>Jp.r.Wi (v':=v') (W':=W') uV hxA hown hg hb);rw[←Rw] at Rs;have OP:=ah uV;have OA:=ah Jp.blk;have HZ:=ah hL4.r.lN.size;have dI:=hL4.blk;unfold uU at dI;simp only[if_true] at dI;have x2:wc.cell? ⟨g,5,none⟩=some (.slice A0 a.iD.length c0):=dI.cell 5;have U1:(wc.alloc (.cells #[.slice A m cc] 31)).cell? ⟨g,5,none⟩=some (.slice A0 a.iD.length c0):=(dI.alloc _).cell 5;have x2b:(wc.alloc (.cells #[.slice A m cc] 31)).drew.cell? ⟨g,5,none⟩=some (.slice A0 a.iD.length c0):=U1;have ad5:wc.drew.cell? ⟨W.heap.size,4,none⟩=some (.slice A m cc):=Zi;have hsz:=World.size_alloc wc (.cells #[.slice A m cc] 31);have HS:=ah hsz;have aiv:a.iD.length≤99000:=by omega
     clear hvs Jp uV hxA hL4 dI hsz Rw;go_upto_region 8 with (fail)
     go_region_law ((refine dG _ (by rfl) _ _ 37 (by rfl) w0.heap.size 31 j0 (.slice none 0 0) 24 qH hj0 hm0 hm1 hm2 rfl (.slice A0 a.iD.length c0) a.iD.length vs (by rfl) OP.out (wc.alloc (.cells #[.slice A m cc] 31)).heap.size (some ⟨wc.heap.size,0,none⟩) 1 1 [.slice A m cc] (by rfl) (lg wc (.slice A m cc) 31) (by simp[Value.oneCell']) (by unfold maxLen;omega) (by omega) (by have:=HS.out;have:=HZ.out;simp;omega) ?_;intro v5 w5 hown5 cB hb5;obtain ⟨A5,c5,rfl,hs5,_⟩:=aS hown5;obtain ⟨hP,hg5⟩:=Rs.out _ w5 hown5 cB hb5;have pW:=hg5.trans OA.out;have q2:=au.cell pW 5;have q3:=au.frozen pW 5;unfold uU at q2;simp at q2))
     all_goals
      have hL:sO w0 true g ga gb c {a with s:=eG a.s x,iD:=a.iD++ [x]} b na nb qB Fb v0 v1 (.slice A5 (a.iD.length+1) c5) u1 now (w5.setCell ⟨g,5,none⟩ (.slice A5 (a.iD.length+1) c5)):=⟨hP.cell 5 _,by
       have hB:=au.av pW 5 (.slice A5 (a.iD.length+1) c5);unfold uU at hB ⊢;simpa using hB⟩
      go_wp2_with fail;go_meet;rw[HS2.out];exact ⟨_,_,_,_,_,_,_,_,by omega,by omega,hL⟩
    ·rw[decide_eq_false hsub];have hS2:S=(a,b,now):=by rw[lX.out];unfold qD;rw[if_neg hsub]
     have HS2:=ah hS2;rw[za hsub] at hL4;have HL4:=ah hL4;clear hS2 hsub hL4;go_wp2_with fail;go_meet;rw[HS2.out];exact ⟨_,_,_,_,_,_,_,_,by omega,by omega,HL4.out⟩
  by_cases Ry:what=1∨what=2∨what=3
  ·have qE:=Zg.out;unfold kP at qE;rw[if_neg N7,if_pos Ry] at qE;have lX:=ah qE.symm;have HC:=ah (yZ Gv.out HP.out.oa (by omega) HP.out.ra (by omega) (by have:=HP.out.la;omega) (n.toNat:Int) (by omega));unfold Jo at HC;simp only[if_true] at HC;clear qE hblk hsn hsb;rcases Ry with rfl|rfl|rfl
   all_goals
    go_wp2_with fail;refine HC.out.mono ?_;rintro e9 w9 ⟨b9,Fa9,v9,rfl,Rz⟩;go_wp2_with fail;go_meet;rw[lX.out];exact ⟨_,_,_,_,_,_,_,_,by omega,by omega,Rz⟩
  have qE:=Zg.out;unfold kP at qE;by_cases RA:what=4∨what=5∨what=6∨what=7
  ·rw[if_neg N7,if_neg Ry,if_pos RA] at qE;obtain ⟨vs,hvs⟩:=Gv.out.r.s1;obtain ⟨A1,c1,hv1,hsl1,_⟩:=aS hvs.1;subst hv1;have x1:W1.cell? ⟨g,2,none⟩=some (.slice A1 b.sent.length c1):=hblk.cell 2;have x1':W1.drew.cell? ⟨g,2,none⟩=some (.slice A1 b.sent.length c1):=x1;have hlb:=HP.out.lb;rcases Nat.eq_zero_or_pos b.sent.length with hb0|hbp
   ·have hS2:S=(a,b,now):=by
     rw[←qE,List.eq_nil_of_length_eq_zero hb0];rfl
    have HS2:=ah hS2;rw[hb0] at x1 x1';clear hvs hsl1 qE hS2 hblk hsn hsb hlb hb0;rcases RA with rfl|rfl|rfl|rfl
    all_goals
     go_upto_region 18 with (fail)
     go_quiet (fail)
     go_wp2_with fail;go_meet;rw[HS2.out];exact ⟨na,nb,Fa,Fb,_,_,_,_,by omega,by omega,Gv.out.below ((Below.refl _ W1).drewN _)⟩
   ·obtain ⟨j,hj⟩:∃j,pick.toNat%b.sent.length=j:=⟨_,rfl⟩
    have hjl:j<b.sent.length:=by rw[←hj];exact Nat.mod_lt _ hbp
    obtain ⟨y,hy⟩:∃y,b.sent[j]? =some y:=⟨_,List.getElem?_eq_getElem hjl⟩
    have hmem:=List.mem_of_getElem? hy;have hS2:S=(nu c a now y,b,now):=by
     rw[←qE,hj,hy]
    obtain ⟨vi,e1,e2,e3⟩:=hvs.2 j y hy;obtain ⟨Ay,cy,hvy,hsy,_⟩:=aS e2;subst hvy;obtain ⟨ad1,hA1,Bh,hcl⟩:=hsl1.at_ hbp;subst hA1;have xj:W1.cell? (ad1.add j)=some (.slice Ay y.length cy):=hcl j _ e1;have xj':W1.drew.cell? (ad1.add j)=some (.slice Ay y.length cy):=xj;obtain ⟨q1,q2,q3⟩:=HP.out.recv now (by omega) hmem;have hsy2:=(HP.out.sb y hmem).2;have U4:=CF (Gv.out.below (Below.refl _ W1).drew) HP.out.oa (by omega) HP.out.ra (by unfold maxLen;omega) (by omega) Ay y.length cy y (fun W2 hk=>by
     have h2:W2.ownsRow w0.heap.size 5 1 (.slice Ay y.length cy) y.length (bQ y):=bT e2 fun k hk2=>by
      obtain ⟨cs,fr,hc⟩:=mr e2 hk2;exact (hk.same k (.cells cs 5 fr) hc fun e=>e3 k hk2 (.inl (e.2 ⟨cs,fr,rfl⟩))).trans hc.symm
     obtain ⟨A',c',e',hs',_⟩:=aS h2;cases e';exact hs') (by omega) (by have:=HP.out.ib;omega) q2 q3
    unfold Jo at U4;simp only[if_true] at U4;have HGV:=ah U4;have HS2:=ah hS2;have ad7:decide ((0:Int)<(b.sent.length:Int))=true:=decide_eq_true (by omega);have hjm:(pick.toNat:Int)%(b.sent.length:Int)=(j:Int):=by rw[←hj];rfl
    have hj0:(0:Int)≤(j:Int):=by omega
    have hj1:(j:Int)<(b.sent.length:Int):=by omega
    have aiy:((b.sent.length:Int)==0)=false:=by
     cases h0:((b.sent.length:Int)==0) with
     |false=>rfl
     |true=>exact absurd (eq_of_beq h0) (by omega)
    clear hvs hsl1 qE hS2 hblk hsn hsb hlb e1 e2 e3 hsy hcl q1 q2 q3 U4 hmem hy hj hsy2;rcases RA with rfl|rfl|rfl|rfl
    all_goals
     go_upto_region 18 with (fail)
     go_cut [95] from 74 to 94 (fun s95 wx=>s95= .bool false∧CZ w0 true g ga gb c (nu c a now y) b (M+1) now wx)
     case first=>
      have aiA:IntKind.i64.wrap 1=1:=by decide
      have aiB:IntKind.i64.wrap (pick.toNat:Int)=(pick.toNat:Int):=IntWalk.i64_in _ (by omega);have aiC:¬b.sent= []:=fun e=>by rw[e] at hbp;simp at hbp
      have htm:(pick.toNat:Int).tmod (b.sent.length:Int)=(j:Int):=by rw[Int.tmod_eq_emod_of_nonneg (by omega)];exact hjm
      have aiD:IntKind.i64.wrap 0=0:=by decide
      refine wp_region_still_tail 19 (by kernel_rfl) (by kernel_rfl) ?_;simp only[List.take_succ_cons,List.take_zero,List.drop_succ_cons,List.drop_zero]
      still_step
      still_step
      still_step
      still_step
      still_step
      still_step
      still_step
      still_step
      still_step
      still_step
      still_step
      still_step
      still_step
      still_step
      still_step
      still_step
      still_step
      still_step
      still_step
      refine wpStill_nil ?_;change wpList _ _ _ _ _ W1.drew;go_wp2_with fail;refine HGV.out.mono ?_;rintro e9 w9 ⟨n9,Fa9,rfl,hn9,Rz⟩;go_wp2_with fail;go_meet;exact ⟨rfl,_,_,_,_,_,_,_,_,by omega,by omega,Rz⟩
     case rest=>
      obtain ⟨rfl,Rz⟩:=hcut;go_wp2_with fail;go_meet;rw[HS2.out];exact Rz
  ·rw[if_neg N7,if_neg Ry,if_neg RA] at qE;have lX:=ah qE.symm;have q0:(what==0)=false:=by simpa using N7
   have q1:(what==1)=false:=by simp;omega
   have q2:(what==2)=false:=by simp;omega
   have q3:(what==3)=false:=by simp;omega
   have q4:(what==4)=false:=by simp;omega
   have q5:(what==5)=false:=by simp;omega
   have q6:(what==6)=false:=by simp;omega
   have q7:(what==7)=false:=by simp;omega
   have hm8:=Nat.mod_lt n.toNat (show 8>0 by omega);have hcast:((n.toNat%8:Nat):Int)=(n.toNat:Int)%8:=by omega
   rw[hcast] at lX;have HLN:=ah (show CZ w0 true g ga gb c a b (M+1) (now+(n.toNat:Int)%8) (W1.setCell ⟨g,8,none⟩ (.int .i64 (now+(n.toNat:Int)%8))).drew from
    CZ.below ⟨na,nb,Fa,Fb,v0,v1,u0,u1,by omega,by omega,((Gv.out.r.cell 8 _).NZ a.out b.out),by
     have hB:=Gv.out.blk.av 8 (.int .i64 (now+(n.toNat:Int)%8));unfold uU at hB ⊢;simpa using hB⟩ (Below.refl _ _).drew)
   have hwn:IntKind.i64.wrap (now+(n.toNat:Int)%8)=now+(n.toNat:Int)%8:=IntWalk.i64_in _ (by omega);rw[IntKind.wrap_i64] at hwn;clear qE hblk hsn hsb N7 Ry RA;go_upto_region 5 with (fail)
   go_region
   all_goals
    go_wp2_with fail;go_meet;rw[lX.out];exact HLN.out
 case rest=>
  obtain ⟨na2,nb2,Fa2,Fb2,y0_,y1_,y2_,y3_,_,_,hM⟩:=id hcut;have VK:=ah hcut;have hblk:=hM.blk;unfold uU at hblk;simp only[if_true] at hblk;have RB:∀V,Below wc.heap.size wc V→V.cell? ⟨g,1,none⟩=some (.pointer (some ⟨ga,0,none⟩))∧V.cell? ⟨g,0,none⟩=some (.pointer (some ⟨gb,0,none⟩))∧V.cell? ⟨g,7,none⟩=some (.int .i64 S.1.out)∧V.cell? ⟨g,6,none⟩=some (.int .i64 S.2.1.out):=fun V hV=>by
   have b0:=hblk.below hV hblk.lt;exact ⟨b0.cell 1,b0.cell 0,b0.cell 7,b0.cell 6⟩
  have HS:=ah RB;have zN:=ah (fun (V:World) (hV:Below wc.heap.size wc V)=>jc (hM.r.ea.below hV) zW.out.oa);have Z9:=ah (fun (V:World) (hV:Below wc.heap.size wc V)=>jc (hM.r.eb.below hV) zW.out.ob);have hd1:decide ((S.1.s.done:Int)≤(S.2.1.out:Int))=true:=decide_eq_true (by have:=zW.out.da.confirmed;omega);have hd2:decide ((S.2.1.s.done:Int)≤(S.1.out:Int))=true:=decide_eq_true (by have:=zW.out.db.confirmed;omega);have aiF:decide (S.1.s.done≤S.2.1.out)=true:=decide_eq_true zW.out.da.confirmed;have aiG:decide (S.2.1.s.done≤S.1.out)=true:=decide_eq_true zW.out.db.confirmed;have hb0:=(Below.refl wc.heap.size wc).drew;clear hblk RB hM hcut hsn hsb;go_upto_region 20 with (fail)
  refine bJ (fun w'=>w'.cell? ⟨g,1,none⟩=some (.pointer (some ⟨ga,0,none⟩))∧w'.cell? ⟨g,0,none⟩=some (.pointer (some ⟨gb,0,none⟩))∧w'.cell? ⟨g,7,none⟩=some (.int .i64 S.1.out)∧w'.cell? ⟨g,6,none⟩=some (.int .i64 S.2.1.out)) [] (by kernel_rfl) ?_;have hHeld:=HS.out _ hb0;refine aT 0 rfl hHeld ?_
  try simp only[Act.put,aD,aF,ay,aA,aB]
  refine aT 1 rfl hHeld ?_
  try simp only[Act.put,aD,aF,aG,ay,aA,aB]
  refine aT 2 rfl hHeld ?_
  try simp only[Act.put,aD,aF,aG,ay,aA,aB]
  refine aT 3 rfl hHeld ?_
  try simp only[Act.put,aD,aF,aG,ay,aA,aB]
  refine iw [] 4 ?_ rfl (Or.inl ⟨by rfl,?_⟩) hHeld ?_;rotate_left
  ·intro w' hSw;obtain ⟨hS1,hS2,gK,ku⟩:=hSw;go_simp
   try with_reducible rfl
  try simp only[Act.put,aD,aF,aG,ay,aA,aB]
  refine aT 6 rfl hHeld ?_
  try simp only[Act.put,aD,aF,aG,ay,aA,aB]
  refine aT 7 rfl hHeld ?_
  try simp only[Act.put,aD,aF,aG,ay,aA,aB]
  refine aT 8 rfl hHeld ?_
  try simp only[Act.put,aD,aF,aG,ay,aA,aB]
  refine aT 9 rfl hHeld ?_
  try simp only[Act.put,aD,aF,aG,ay,aA,aB]
  refine iw [] 10 ?_ rfl (Or.inl ⟨by rfl,?_⟩) hHeld ?_;rotate_left
  ·intro w' hSw;obtain ⟨hS1,hS2,gK,ku⟩:=hSw;go_simp
   try with_reducible rfl
  try simp only[Act.put,aD,aF,aG,ay,aA,aB]
  refine aR (i:=5) rfl (by kernel_rfl) (by rfl) (fun K hK=> ?_);go_simp;refine (Z9.out _ hb0).mono ?_;rintro e6 w6 ⟨rfl,hb6⟩;have hbx:=hb0.trans (hb6.mono hb0.size);refine hK _ _ (HS.out _ hbx) ?_;have hHeld:=(HS.out _ hbx);clear hK K
  try simp only[Act.put,aD,aF,aG,ay,aA,aB]
  refine aT 11 rfl hHeld ?_
  try simp only[Act.put,aD,aF,aG,ay,aA,aB]
  refine aT 12 rfl hHeld ?_
  try simp only[Act.put,aD,aF,aG,ay,aA,aB]
  refine aT 13 rfl hHeld ?_
  try simp only[Act.put,aD,aF,aG,ay,aA,aB]
  refine aT 14 rfl hHeld ?_
  try simp only[Act.put,aD,aF,aG,ay,aA,aB]
  refine aT 15 rfl hHeld ?_
  try simp only[Act.put,aD,aF,aG,ay,aA,aB]
  refine aT 16 rfl hHeld ?_
  try simp only[Act.put,aD,aF,aG,ay,aA,aB]
  refine iw [] 17 ?_ rfl (Or.inl ⟨by rfl,?_⟩) hHeld ?_;rotate_left
  ·intro w' hSw;obtain ⟨hS1,hS2,gK,ku⟩:=hSw;go_simp
   try with_reducible rfl
  try simp only[Act.put,aD,aF,aG,ay,aA,aB]
  refine aT 19 rfl hHeld ?_
  try simp only[Act.put,aD,aF,aG,ay,aA,aB]
  refine aT 20 rfl hHeld ?_
  try simp only[Act.put,aD,aF,aG,ay,aA,aB]
  refine aT 21 rfl hHeld ?_
  try simp only[Act.put,aD,aF,aG,ay,aA,aB]
  refine aT 22 rfl hHeld ?_
  try simp only[Act.put,aD,aF,aG,ay,aA,aB]
  refine iw [] 23 ?_ rfl (Or.inl ⟨by rfl,?_⟩) hHeld ?_;rotate_left
  ·intro w' hSw;obtain ⟨hS1,hS2,gK,ku⟩:=hSw;go_simp
   try with_reducible rfl
  try simp only[Act.put,aD,aF,aG,ay,aA,aB]
  refine aR (i:=18) rfl (by kernel_rfl) (by rfl) (fun K hK=> ?_);go_simp;refine (zN.out _ hbx).mono ?_;rintro e7 w7 ⟨rfl,oZ⟩;have hbz:=hbx.trans (oZ.mono hbx.size);refine hK _ _ (HS.out _ hbz) ?_;have hHeld:=(HS.out _ hbz);clear hK K
  try simp only[Act.put,aD,aF,aG,ay,aA,aB]
  refine aT 24 rfl hHeld ?_
  try simp only[Act.put,aD,aF,aG,ay,aA,aB]
  refine aT 25 rfl hHeld ?_
  try simp only[Act.put,aD,aF,aG,ay,aA,aB]
  refine aT 26 rfl hHeld ?_
  try simp only[Act.put,aD,aF,aG,ay,aA,aB]
  refine bI (by kernel_rfl) ?_ _;go_wp2_with fail;go_ret;exact ⟨rfl,VK.out.below hbz⟩
end
end
section
open Go.RowKit Go.Shelf
attribute [local go_sem] Oper.semAt_some
def ad8 (w:World) (e:Ending) (w':World):Prop:=e= .returned (.bool true)∧Below w.heap.size w w'
theorem CZ.lN {w0 W:World} {sw:Bool} {g ga gb M:Nat} {c:Cf} {a b:En} {now:Int} (h:CZ w0 sw g ga gb c a b M now W):Below w0.heap.size w0 W:=by
 obtain ⟨na,nb,Fa,Fb,v0,v1,u0,u1,_,_,h3⟩:=h;exact h3.r.lN
def ad9 (w0:World) (g ga gb:Nat) (c:Cf) (M G J K:Nat) (now:Int) (e:Ending) (W':World):Prop:=
 ∃a b now',e= .returned (.bool true)∧now≤now'∧now'≤now+7∧CZ w0 false g ga gb c a b (M+1) now' W'∧yu c a b (G+1) (J+1) (K+6)
theorem U6 {w0 W:World} {g ga gb M G J K:Nat} {c:Cf} {a b:En} {now:Int} (h:CZ w0 false g ga gb c a b M now W) (P:yu c a b G J K) (hM:M≤100000) (hG:G<511) (hK:K≤70000) (hJ:J≤99000) (zb:0≤now) (dM:now≤9223372036854775800) (x:EvQ)
 (hx0:Sl w0 w0.heap.size x.A x.b.length x.c (bQ x.b)) (Ju:x.b.length≤60):
 Calls Tryz.prog 12 #[.pointer (some ⟨g,0,none⟩),.agg #[.int .i64 x.k,.bool x.who,.int .u8 x.n.toNat,.int .u8 x.pick.toNat,.slice x.A x.b.length x.c]] W (ad9 w0 g ga gb c M G J K now):=by
 obtain ⟨k,who,n,pick,A,l,cc⟩:=x;cases who with
 |false=>
  have hP:=P.step hG (by omega) (now:=now) (by omega) k n pick (x:=l) Ju;have hs:=sQ c a b now k n pick l;obtain ⟨na,nb,Fa,Fb,v0,v1,u0,u1,h1,h2,h3⟩:=h;refine (U3 h3 P h1 h2 hM hG hK hJ zb dM k n pick hx0 Ju).mono ?_;rintro e W' ⟨rfl,hL⟩;exact ⟨_,_,_,rfl,hs.1,hs.2,hL,hP⟩
 |true=>
  have hP:=P.swap.step hG (by omega) (now:=now) (by omega) k n pick (x:=l) Ju;have hs:=sQ c b a now k n pick l;obtain ⟨na,nb,Fa,Fb,v0,v1,u0,u1,h1,h2,h3⟩:=h.swap;refine (U5 h3 P.swap h1 h2 hM hG hK hJ zb dM k n pick hx0 Ju).mono ?_;rintro e W' ⟨rfl,hL⟩;exact ⟨_,_,_,rfl,hs.1,hs.2,hL.swap,hP.swap⟩
set_option maxRecDepth 100000 in
set_option maxHeartbeats 4000000 in
theorem Lh (a0 a1 a2 a3 a4 a5 a6:Int) (A:Option Addr) (n c:Nat) (l:List EvQ) (w:World) (h:Te w w.heap.size A n c l):
 Calls Tryz.prog 3 #[.agg #[.int .i64 a0,.int .i64 a1,.int .i64 a2,.int .i64 a3,.int .i64 a4,.int .i64 a5,.int .i64 a6],.slice A n c] w (ad8 w):=by
 have hb0:=(Below.refl w.heap.size w).alloc (aN) (.cells #[.int .i64 a0,.int .i64 a1,.int .i64 a2,.int .i64 a3,.int .i64 a4,.int .i64 a5,.int .i64 a6] 23);have hfe:=He A n c l (w.alloc (.cells #[.int .i64 a0,.int .i64 a1,.int .i64 a2,.int .i64 a3,.int .i64 a4,.int .i64 a5,.int .i64 a6] 23)) (h.base hb0 (by simp)) 120 (by decide);rw[show (((120:Nat):Int))=120 from rfl] at hfe;have hne:=Lg a0 a1 a2 a3 a4 a5 a6 w (w.alloc (.cells #[.int .i64 a0,.int .i64 a1,.int .i64 a2,.int .i64 a3,.int .i64 a4,.int .i64 a5,.int .i64 a6] 23)) hb0;have hc0:=au.new w 23 #[.int .i64 a0,.int .i64 a1,.int .i64 a2,.int .i64 a3,.int .i64 a4,.int .i64 a5,.int .i64 a6];unfold wK at hne;have hcap:=h.cap;have hmx:=h.mx;have jF:=ah h.len;have HFE:=ah hfe;have HB0:=ah hb0;have Y5:=ah hne;have HSL:=ah h;obtain ⟨x0,x1,x2,x3,x4,x5,x6⟩:=rZ (a0:=a0) (a1:=a1) (a2:=a2) (a3:=a3) (a4:=a4) (a5:=a5) (a6:=a6) hc0;clear h hfe hb0 hne hc0;go_enter Tryz.func3,Tryz.ntmps3;go_wp2_with fail;generalize w.alloc (.cells #[.int .i64 a0,.int .i64 a1,.int .i64 a2,.int .i64 a3,.int .i64 a4,.int .i64 a5,.int .i64 a6] 23)=w1 at*;refine HFE.out.mono ?_;rintro e1 w2 ⟨b,rfl,hok,rfl⟩;clear HFE;cases b with
 |false=>
  clear hok x0 x1 x2 x3 x4 x5 x6;go_wp2_with fail;refine (r9 _).mono ?_;rintro e1 w3 ⟨rfl,hb3⟩;go_wp2;go_ret;exact ⟨rfl,HB0.out.trans (hb3.mono HB0.out.size)⟩
 |true=>
  have alA:n≤120:=by rw[←jF.out];exact (hok rfl).1
  have Rv:=ah (hok rfl).2;clear hok;go_wp2_with fail;clear x0 x1 x2 x3 x4 x5 x6;refine Y5.out.mono ?_;rintro e1 w3 (⟨hr,g,ga,gb,rfl,hL⟩|⟨hb3,rfl⟩);rotate_left
  ·have HB3:=ah (HB0.out.trans (hb3.mono HB0.out.size));clear Y5 hb3;go_wp2_with fail;refine (r9 _).mono ?_;rintro e1 w4 ⟨rfl,hb4⟩;go_wp2;go_ret;exact ⟨rfl,HB3.out.trans (hb4.mono HB3.out.size)⟩
  have HT:=ah hL;have HP:=ah (U2 hr);generalize sZ a0 a1 a2 a3 a4 a5 a6=cf at*;clear Y5 hr hL HB0;go_wp2_with fail
  go_loopw [7] (fun i wr=>∃(k:Nat) (a b:En) (now:Int),k≤n∧i= .int .i64 k∧0≤now∧now≤7*k∧CZ w false g ga gb cf a b k now wr∧yu cf a b k k (6*k)) (fun i _=>n-(intOf i).toNat)
  case atStart=>exact ⟨0,en0,en0,0,Nat.zero_le _,rfl,by omega,by omega,HT.out,HP.out⟩
  case round=>
   obtain ⟨k,a,b,now,hk,rfl,zb,Wn,hT,hP⟩:=hrel;have HTT:=ah hT;have X7:=ah hP;have ZI:=ah zb;have wL:=ah Wn;clear hT HT hP HP;by_cases hlt:k<n
   ·obtain ⟨ad,x,rfl,agR,hx,hI,h0,h1,h2,h3,h4⟩:=HSL.out.get HTT.out.lN hlt;have e1:=h1;have e2:=h2;have e3:=h3;have e4:=h4;rw[←D8 _ _ _ (by decide)] at e1 e2 e3 e4;have HST:=ah (U6 HTT.out X7.out (by omega) (by omega) (by omega) (by omega) zb (by omega) x hI (Rv.out x (List.mem_of_getElem? hx)));clear hx hI zb Wn;go_wp2_with fail;refine HST.out.mono ?_;rintro e1 w6 ⟨a',b',now',rfl,hn1,hn2,hL6,hP6⟩;have HL6:=ah hL6;have HP6:=ah hP6;have HN1:=ah hn1;have HN2:=ah hn2;clear hn1 hn2 hL6 hP6 HST HTT X7 h0 h1 h2 h3 h4 e2 e3 e4 e1;go_wp2_with fail;exact ⟨⟨k+1,a',b',now',by omega,by go_num,by have:=ZI.out;have:=HN1.out;omega,by have:=wL.out;have:=HN2.out;omega,HL6.out,HP6.out⟩,by simp[intOf];omega⟩
   ·clear HSL;go_wp2_with fail;refine (r9 _).mono ?_;rintro e1 w4 ⟨rfl,hb4⟩;go_wp2;go_ret;exact ⟨rfl,HTT.out.lN.trans (hb4.mono HTT.out.lN.size)⟩
end
end Go.Proofs.YtbhiklnljiehiaaGreat
