/- law37: a link: grants. -/
import Derived.Test.YtbhiklnljiehiaaGreatM1bt
import Derived.Test.YtbhiklnljiehiaaGreatM1bu
namespace Go.Proofs.YtbhiklnljiehiaaGreat
section
open Go.RowKit Go.Shelf
attribute [local go_sem] Oper.semAt_some
def Jo (sw:Bool):Int:=if sw=true then 1 else 0
section
variable {w0 W W':World} {sw:Bool} {g ga gb na nb na' G J K:Nat} {c:Cf} {a b:En} {s:Sd} {r:Rc} {Fa Fb kD:Fp} {v0 v1 u0 u1:Value} {now:Int}
theorem N6 (h:sO w0 sw g ga gb c a b na nb Fa Fb v0 v1 u0 u1 now W) (ho:fq c a.s K) (hK:K≤80000) (hr:tC c a.r) (t N:Int) (ht:t≤9223372036854775807) (hN:N≤9223372036854775807):
 Calls Tryz.prog 18 #[.pointer (some ⟨ga,0,none⟩),.int .i64 t,.int .i64 N] W fun e W'=>∃A cc kD,e= .returned (.tuple #[.slice A (aM c a.s a.r t N).2.2.1.length cc,.int .i64 (aM c a.s a.r t N).2.2.2])∧
  sO w0 sw g ga gb c {a with s:=(aM c a.s a.r t N).1,r:=(aM c a.s a.r t N).2.1} b na nb kD Fb v0 v1 u0 u1 now W'∧W'.ownsRow w0.heap.size 5 1 (.slice A (aM c a.s a.r t N).2.2.1.length cc) (aM c a.s a.r t N).2.2.1.length (bQ (aM c a.s a.r t N).2.2.1)∧
  (∀k,(Value.slice A (aM c a.s a.r t N).2.2.1.length cc).ownBlock=some k→¬kD.b k∧¬Fb.b k)∧W.heap.size≤W'.heap.size:=by
 refine (Cy h.r.ea ho hK hr t N ht hN).mono ?_;rintro e W' ⟨v,rfl,hv,hG⟩;obtain ⟨kD,hR,hb⟩:=hG.toR;have hv0:=aU hv h.r.lN.size;obtain ⟨A,cc,rfl,_⟩:=aS hv;refine ⟨A,cc,kD,rfl,h.call hR,hv0,fun k hk=> ?_,hR.kp.size⟩;have h9:=(hv.lt k hk).1;exact ⟨fun e=>by have:=h.r.ea.lt k (h.r.ea.Rb k (hb k e));omega,fun e=>by have:=h.r.eb.lt k (h.r.eb.Rb k e);omega⟩
def U0 (w0:World) (sw:Bool) (g ga gb:Nat) (c:Cf) (a b:En) (na nb:Nat) (Fb:Fp) (v1 u0 u1:Value) (now:Int) (e:Ending) (W':World):Prop:=∃b' kD v0',e= .returned (.bool b')∧sO w0 sw g ga gb c a b na nb kD Fb v0' v1 u0 u1 now W'
set_option maxRecDepth 100000 in
set_option maxHeartbeats 2000000 in
theorem yZ (h:sO w0 sw g ga gb c a b na nb Fa Fb v0 v1 u0 u1 now W) (ho:fq c a.s K) (hK:K≤80000) (hr:tC c a.r) (dM:now≤9223372036854775807) (hl:a.sent.length≤100000) (N:Int) (hN:N≤9223372036854775807):
 Calls Tryz.prog 14 #[.pointer (some ⟨g,0,none⟩),.int .i64 (Jo sw),.int .i64 N] W (U0 w0 sw g ga gb c (jM c a now N) b na nb Fb v1 u0 u1 now):=by
 obtain ⟨j0,hj0,hm0,hm1,hm2⟩:=info_parts nN;have HC:=ah (N6 (h.below (Below.refl _ W).drew) ho hK hr now N dM hN);have hblk:=h.blk;unfold uU at hblk;unfold Jo;cases sw with
 |false=>
  simp only[Bool.false_eq_true,if_false] at hblk HC ⊢;have x0:W.cell? ⟨g,0,none⟩=some (.pointer (some ⟨ga,0,none⟩)):=hblk.cell 0;have x8:W.cell? ⟨g,8,none⟩=some (.int .i64 now):=hblk.cell 8;have y0:W.drew.cell? ⟨g,0,none⟩=some (.pointer (some ⟨ga,0,none⟩)):=x0;have y8:W.drew.cell? ⟨g,8,none⟩=some (.int .i64 now):=x8;clear hblk h;go_enter Tryz.func14,Tryz.ntmps14;go_upto_region 1 with fail
  go_cut [7,8] (fun s7 s8 wx=>∃A4 c4 qB,s7= .slice A4 (aM c a.s a.r now N).2.2.1.length c4∧s8= .int .i64 (aM c a.s a.r now N).2.2.2∧sO w0 false g ga gb c {a with s:=(aM c a.s a.r now N).1,r:=(aM c a.s a.r now N).2.1} b na nb qB Fb v0 v1 u0 u1 now wx∧wx.ownsRow w0.heap.size 5 1 (.slice A4 (aM c a.s a.r now N).2.2.1.length c4) (aM c a.s a.r now N).2.2.1.length (bQ (aM c a.s a.r now N).2.2.1)∧
   ∀k,(Value.slice A4 (aM c a.s a.r now N).2.2.1.length c4).ownBlock=some k→¬qB.b k∧¬Fb.b k)
  case first=>
   go_region_law (go_simp;(with_reducible refine HC.out.mono ?_);rintro e4 w4 ⟨A4,c4,qB,rfl,hL4,hv4,hb4,hz4⟩)
   all_goals
    go_wp2_with fail;go_meet;exact ⟨_,_,_,rfl,rfl,hL4,hv4,hb4⟩
  case rest=>
   obtain ⟨A4,c4,qB,rfl,rfl,hL4,hv4,hb4⟩:=hcut;obtain ⟨R,hR⟩:∃R,aM c a.s a.r now N=R:=⟨_,rfl⟩
   have Wj:jM c a now N= {a with s:=R.1,r:=R.2.1,sent:=if R.2.2.1= [] then a.sent else a.sent++ [R.2.2.1]}:=by unfold jM;rw[hR]
   rw[hR] at hL4 hv4 hb4 ⊢;have Mi:=ah Wj;clear HC Wj hR ho hr;obtain ⟨s1,r1,bs,er⟩:=R;dsimp only at hL4 hv4 hb4 ⊢;cases bs with
   |nil=>
    have HL:=ah hL4;clear hL4 hv4 hb4;go_wp2_with fail;go_ret;exact ⟨_,qB,v0,rfl,by rw[Mi.out];simpa using HL.out⟩
   |cons x t=>
    obtain ⟨vs,hvs⟩:=hL4.r.s0;obtain ⟨A0,c0,hv0,_,_⟩:=aS hvs.1;subst hv0;obtain ⟨m,hm⟩:∃m,(x::t).length=m+1:=⟨t.length,rfl⟩
    have hmn:((m:Int)+1==0)=false:=by simp;omega
    have Jp:=(hL4.below ((Below.refl _ wc).alloc (aN) (.cells #[.slice A4 (x::t).length c4] 31))).below (Below.refl _ _).drew;have uV:(wc.alloc (.cells #[.slice A4 (x::t).length c4] 31)).drew.ownsRow w0.heap.size 31 1 (.slice A0 a.sent.length c0) a.sent.length vs:=World.ownsRow.drew' (hvs.1.alloc _);have hiA:(wc.alloc (.cells #[.slice A4 (x::t).length c4] 31)).drew.ownsRow w0.heap.size 5 1 (.slice A4 (x::t).length c4) (x::t).length (bQ (x::t)):=World.ownsRow.drew' (hv4.alloc _);have Rs:=ah (fun (v':Value) (W':World) hown hg hb=>Jp.r.Wh (v':=v') (W':=W') uV hiA hb4 hown hg hb);have OP:=ah uV;have OA:=ah Jp.blk;have HZ:=ah hL4.r.lN.size;have dI:=hL4.blk;unfold uU at dI;simp only[Bool.false_eq_true,if_false] at dI;have x2:wc.cell? ⟨g,2,none⟩=some (.slice A0 a.sent.length c0):=dI.cell 2;have U1:(wc.alloc (.cells #[.slice A4 (x::t).length c4] 31)).cell? ⟨g,2,none⟩=some (.slice A0 a.sent.length c0):=(dI.alloc _).cell 2;have x2b:(wc.alloc (.cells #[.slice A4 (x::t).length c4] 31)).drew.cell? ⟨g,2,none⟩=some (.slice A0 a.sent.length c0):=U1;have hsz:=World.size_alloc wc (.cells #[.slice A4 (x::t).length c4] 31);have HS:=ah hsz;rw[hm] at Rs OP OA HS U1 x2b ⊢;clear hvs Jp uV hiA hb4 hv4 hL4 dI hsz;go_upto_region 4 with fail
    go_cut [37] (fun s37 wx=>∃v',sO w0 false g ga gb c {a with s:=s1,r:=r1,sent:=a.sent++ [x::t]} b na nb qB Fb v' v1 u0 u1 now wx)
    case first=>
     go_region_law ((refine dG _ (by rfl) _ _ 37 (by rfl) w0.heap.size 31 j0 (.slice none 0 0) 24 qH hj0 hm0 hm1 hm2 rfl (.slice A0 a.sent.length c0) a.sent.length vs (by rfl) OP.out (wc.alloc (.cells #[.slice A4 (m+1) c4] 31)).heap.size (some ⟨wc.heap.size,0,none⟩) 1 1 [.slice A4 (m+1) c4] (by rfl) (lg wc (.slice A4 (m+1) c4) 31) (by simp[Value.oneCell']) (by unfold maxLen;omega) (by omega) (by have:=HS.out;have:=HZ.out;simp;omega) ?_;intro v5 w5 hown5 cB hb5;obtain ⟨A5,c5,rfl,hs5,_⟩:=aS hown5;obtain ⟨hP,hg5⟩:=Rs.out _ w5 hown5 cB hb5;have pW:=hg5.trans OA.out;have q2:=au.cell pW 2;have q3:=au.frozen pW 2;unfold uU at q2;simp at q2))
     all_goals
      have hL:sO w0 false g ga gb c {a with s:=s1,r:=r1,sent:=a.sent++ [x::t]} b na nb qB Fb (.slice A5 (a.sent.length+1) c5) v1 u0 u1 now (w5.setCell ⟨g,2,none⟩ (.slice A5 (a.sent.length+1) c5)):=⟨hP.cell 2 _,by
       have hB:=au.av pW 2 (.slice A5 (a.sent.length+1) c5);unfold uU at hB ⊢;simpa using hB⟩
      go_wp2_with fail;go_meet;exact ⟨_,hL⟩
    case rest=>
     obtain ⟨v',hL⟩:=hcut;have HL:=ah hL;clear hL;go_wp2_with fail;go_ret;exact ⟨_,qB,v',rfl,by rw[Mi.out];simpa using HL.out⟩
 |true=>
  simp only[if_true] at hblk HC ⊢;have x0:W.cell? ⟨g,1,none⟩=some (.pointer (some ⟨ga,0,none⟩)):=hblk.cell 1;have x8:W.cell? ⟨g,8,none⟩=some (.int .i64 now):=hblk.cell 8;have y0:W.drew.cell? ⟨g,1,none⟩=some (.pointer (some ⟨ga,0,none⟩)):=x0;have y8:W.drew.cell? ⟨g,8,none⟩=some (.int .i64 now):=x8;clear hblk h;go_enter Tryz.func14,Tryz.ntmps14;go_upto_region 1 with fail
  go_cut [7,8] (fun s7 s8 wx=>∃A4 c4 qB,s7= .slice A4 (aM c a.s a.r now N).2.2.1.length c4∧s8= .int .i64 (aM c a.s a.r now N).2.2.2∧sO w0 true g ga gb c {a with s:=(aM c a.s a.r now N).1,r:=(aM c a.s a.r now N).2.1} b na nb qB Fb v0 v1 u0 u1 now wx∧wx.ownsRow w0.heap.size 5 1 (.slice A4 (aM c a.s a.r now N).2.2.1.length c4) (aM c a.s a.r now N).2.2.1.length (bQ (aM c a.s a.r now N).2.2.1)∧
   ∀k,(Value.slice A4 (aM c a.s a.r now N).2.2.1.length c4).ownBlock=some k→¬qB.b k∧¬Fb.b k)
  case first=>
   go_region_law (go_simp;(with_reducible refine HC.out.mono ?_);rintro e4 w4 ⟨A4,c4,qB,rfl,hL4,hv4,hb4,hz4⟩)
   all_goals
    go_wp2_with fail;go_meet;exact ⟨_,_,_,rfl,rfl,hL4,hv4,hb4⟩
  case rest=>
   obtain ⟨A4,c4,qB,rfl,rfl,hL4,hv4,hb4⟩:=hcut;obtain ⟨R,hR⟩:∃R,aM c a.s a.r now N=R:=⟨_,rfl⟩
   have Wj:jM c a now N= {a with s:=R.1,r:=R.2.1,sent:=if R.2.2.1= [] then a.sent else a.sent++ [R.2.2.1]}:=by unfold jM;rw[hR]
   rw[hR] at hL4 hv4 hb4 ⊢;have Mi:=ah Wj;clear HC Wj hR ho hr;obtain ⟨s1,r1,bs,er⟩:=R;dsimp only at hL4 hv4 hb4 ⊢;cases bs with
   |nil=>
    have HL:=ah hL4;clear hL4 hv4 hb4;go_wp2_with fail;go_ret;exact ⟨_,qB,v0,rfl,by rw[Mi.out];simpa using HL.out⟩
   |cons x t=>
    obtain ⟨vs,hvs⟩:=hL4.r.s0;obtain ⟨A0,c0,hv0,_,_⟩:=aS hvs.1;subst hv0;obtain ⟨m,hm⟩:∃m,(x::t).length=m+1:=⟨t.length,rfl⟩
    have hmn:((m:Int)+1==0)=false:=by simp;omega
    have Jp:=(hL4.below ((Below.refl _ wc).alloc (aN) (.cells #[.slice A4 (x::t).length c4] 31))).below (Below.refl _ _).drew;have uV:(wc.alloc (.cells #[.slice A4 (x::t).length c4] 31)).drew.ownsRow w0.heap.size 31 1 (.slice A0 a.sent.length c0) a.sent.length vs:=World.ownsRow.drew' (hvs.1.alloc _);have hiA:(wc.alloc (.cells #[.slice A4 (x::t).length c4] 31)).drew.ownsRow w0.heap.size 5 1 (.slice A4 (x::t).length c4) (x::t).length (bQ (x::t)):=World.ownsRow.drew' (hv4.alloc _);have Rs:=ah (fun (v':Value) (W':World) hown hg hb=>Jp.r.Wh (v':=v') (W':=W') uV hiA hb4 hown hg hb);have OP:=ah uV;have OA:=ah Jp.blk;have HZ:=ah hL4.r.lN.size;have dI:=hL4.blk;unfold uU at dI;simp only[if_true] at dI;have x2:wc.cell? ⟨g,3,none⟩=some (.slice A0 a.sent.length c0):=dI.cell 3;have U1:(wc.alloc (.cells #[.slice A4 (x::t).length c4] 31)).cell? ⟨g,3,none⟩=some (.slice A0 a.sent.length c0):=(dI.alloc _).cell 3;have x2b:(wc.alloc (.cells #[.slice A4 (x::t).length c4] 31)).drew.cell? ⟨g,3,none⟩=some (.slice A0 a.sent.length c0):=U1;have hsz:=World.size_alloc wc (.cells #[.slice A4 (x::t).length c4] 31);have HS:=ah hsz;rw[hm] at Rs OP OA HS U1 x2b ⊢;clear hvs Jp uV hiA hb4 hv4 hL4 dI hsz;go_upto_region 4 with fail
    go_cut [37] (fun s37 wx=>∃v',sO w0 true g ga gb c {a with s:=s1,r:=r1,sent:=a.sent++ [x::t]} b na nb qB Fb v' v1 u0 u1 now wx)
    case first=>
     go_region_law ((refine dG _ (by rfl) _ _ 37 (by rfl) w0.heap.size 31 j0 (.slice none 0 0) 24 qH hj0 hm0 hm1 hm2 rfl (.slice A0 a.sent.length c0) a.sent.length vs (by rfl) OP.out (wc.alloc (.cells #[.slice A4 (m+1) c4] 31)).heap.size (some ⟨wc.heap.size,0,none⟩) 1 1 [.slice A4 (m+1) c4] (by rfl) (lg wc (.slice A4 (m+1) c4) 31) (by simp[Value.oneCell']) (by unfold maxLen;omega) (by omega) (by have:=HS.out;have:=HZ.out;simp;omega) ?_;intro v5 w5 hown5 cB hb5;obtain ⟨A5,c5,rfl,hs5,_⟩:=aS hown5;obtain ⟨hP,hg5⟩:=Rs.out _ w5 hown5 cB hb5;have pW:=hg5.trans OA.out;have q2:=au.cell pW 3;have q3:=au.frozen pW 3;unfold uU at q2;simp at q2))
     all_goals
      have hL:sO w0 true g ga gb c {a with s:=s1,r:=r1,sent:=a.sent++ [x::t]} b na nb qB Fb (.slice A5 (a.sent.length+1) c5) v1 u0 u1 now (w5.setCell ⟨g,3,none⟩ (.slice A5 (a.sent.length+1) c5)):=⟨hP.cell 3 _,by
       have hB:=au.av pW 3 (.slice A5 (a.sent.length+1) c5);unfold uU at hB ⊢;simpa using hB⟩
      go_wp2_with fail;go_meet;exact ⟨_,hL⟩
    case rest=>
     obtain ⟨v',hL⟩:=hcut;have HL:=ah hL;clear hL;go_wp2_with fail;go_ret;exact ⟨_,qB,v',rfl,by rw[Mi.out];simpa using HL.out⟩
end
end
section
open Go.RowKit Go.Shelf
attribute [local go_sem] Oper.semAt_some
section
variable {w0 W W':World} {sw:Bool} {g ga gb na nb na' G J K:Nat} {c:Cf} {a b:En} {s:Sd} {r:Rc} {Fa Fb kD:Fp} {v0 v1 u0 u1:Value} {now:Int}
theorem NY.Ve {w0 W:World} {v:Value} {l:List (List UInt8)} {vs:List Value} (h:NY w0 W v l vs) (hz:w0.heap.size≤W.heap.size):∃A cc,v= .slice A l.length cc∧jd W W.heap.size A l.length cc vs l:=by
 obtain ⟨A,cc,rfl,hs,_⟩:=aS h.1;refine ⟨A,cc,rfl,hs,rfl,fun i p hi=> ?_⟩;obtain ⟨Ai,ci,e,hq⟩:=h.2 i p hi;exact ⟨Ai,ci,e,hq.more hz⟩
theorem Rt {W:World} {base:Nat} {T:Nat→Nat} {v:Value} {outs:List (List UInt8)} (h:gN W base T v outs):∃A cc vs,v= .slice A outs.length cc∧jd W W.heap.size A outs.length cc vs outs:=by
 obtain ⟨vs,h1,_,h3⟩:=h;obtain ⟨A,cc,rfl,hs,_⟩:=aS h1;refine ⟨A,cc,vs,rfl,hs,rfl,fun i p hi=> ?_⟩;obtain ⟨vi,e,ho,_⟩:=h3 i p hi;obtain ⟨Ai,ci,e2,hq,_⟩:=aS ho;exact ⟨Ai,ci,by rw[←e2];exact e,hq⟩
theorem jd.Wl {w:World} {ad:Addr} {n c a l:Nat} {vs:List Value} {ps:List (List UInt8)} {B:Nat} (h:jd w B (some ad) n c vs ps) (hl:a+l≤n):
 jd w B (if c=a then some ad else some (ad.add a)) l (c-a) ((vs.drop a).take l) ((ps.drop a).take l):=by
 have hcap:=h.sl.cap;have hmx:=h.sl.mx;have hvl:=h.sl.len;have hpl:=h.len;refine ⟨⟨by rw[List.length_take,List.length_drop];omega,by omega,by omega,fun h0=> ?_⟩,by rw[List.length_take,List.length_drop];omega,fun i q hq=> ?_⟩
 ·obtain ⟨zR,e,hb,hc⟩:=h.sl.at_ (by omega);cases e;rw[if_neg (by omega)];refine ⟨_,rfl,by rw[block_add];exact hb,fun i u hu=> ?_⟩;rw[List.getElem?_take] at hu;split at hu
  ·rw[List.getElem?_drop] at hu;rw[add_add];exact hc _ u hu
  ·cases hu
 ·rw[List.getElem?_take] at hq;split at hq
  ·rename_i hil;rw[List.getElem?_drop] at hq;obtain ⟨Ai,ci,e,hs⟩:=h.each _ _ hq;exact ⟨Ai,ci,by rw[List.getElem?_take,if_pos hil,List.getElem?_drop];exact e,hs⟩
  ·cases hq
theorem Jq (h:sO w0 sw g ga gb c a b na nb Fa Fb v0 v1 u0 u1 now W) (ho:fq c a.s K) (hK:K≤90000) (hr:tC c a.r) (hn:na<maxLen) (t:Int) (ht:t≤9223372036854775807) (A:Option Addr) (m cc:Nat) (bs:List UInt8)
 (hs:∀W2,Kept (fun k o=>Fa k∧(U8 o→Fa.b k)) W W2→Sl W2 W2.heap.size A m cc (bQ bs)) (hsm:m≤1000000):
 Calls Tryz.prog 19 #[.pointer (some ⟨ga,0,none⟩),.int .i64 t,.slice A m cc] W fun e W'=>∃Ao co vs na' kD,e= .returned (.tuple #[.slice Ao (bF c a.s a.r t bs).2.2.1.length co,.int .i64 (bF c a.s a.r t bs).2.2.2])∧na'≤na+1∧
  sO w0 sw g ga gb c {a with s:=(bF c a.s a.r t bs).1,r:=(bF c a.s a.r t bs).2.1} b na' nb kD Fb v0 v1 u0 u1 now W'∧jd W' W'.heap.size Ao (bF c a.s a.r t bs).2.2.1.length co vs (bF c a.s a.r t bs).2.2.1:=by
 refine (wY h.r.ea ho hK hr hn t ht A m cc bs hs hsm).mono ?_;rintro e W' ⟨v,n',F',T,rfl,hn',hR,hO,_,_⟩;obtain ⟨Ao,co,vs,rfl,hsl⟩:=Rt hO;exact ⟨Ao,co,vs,n',F',rfl,hn',h.call hR,hsl⟩
def Zc (w0:World) (sw:Bool) (g ga gb:Nat) (c:Cf) (a b:En) (na nb:Nat) (Fb:Fp) (v0 v1 u0 u1:Value) (now:Int) (e:Ending) (W':World):Prop:=∃na' kD,e= .returned (.bool true)∧na'≤na+1∧sO w0 sw g ga gb c a b na' nb kD Fb v0 v1 u0 u1 now W'
set_option maxRecDepth 100000 in
set_option maxHeartbeats 2000000 in
theorem CF (h:sO w0 sw g ga gb c a b na nb Fa Fb v0 v1 u0 u1 now W) (ho:fq c a.s K) (hK:K≤90000) (hr:tC c a.r) (hn:na<maxLen) (dM:now≤9223372036854775807) (A:Option Addr) (m cc:Nat) (bs:List UInt8)
 (hs:∀W2,Kept (fun k o=>Fa k∧(U8 o→Fa.b k)) W W2→Sl W2 W2.heap.size A m cc (bQ bs)) (hsm:m≤1000000) (_hlb:b.iD.length≤100000)
 (hle:a.out+(bF c a.s a.r now bs).2.2.1.length≤b.iD.length) (heq:(bF c a.s a.r now bs).2.2.1=(b.iD.drop a.out).take (bF c a.s a.r now bs).2.2.1.length):
 Calls Tryz.prog 15 #[.pointer (some ⟨g,0,none⟩),.int .i64 (Jo sw),.slice A m cc] W (Zc w0 sw g ga gb c (nu c a now bs) b na nb Fb v0 v1 u0 u1 now):=by
 have HC:=ah (Jq (h.below (Below.refl _ W).drew) ho hK hr hn now dM A m cc bs (fun W2 hk=>hs W2 ((Kept.dP (Below.refl _ W).drew).trans hk)) hsm);have hblk:=h.blk;unfold uU at hblk;unfold Jo;obtain ⟨R,hR⟩:∃R,bF c a.s a.r now bs=R:=⟨_,rfl⟩
 have Wj:nu c a now bs= {a with s:=R.1,r:=R.2.1,out:=a.out+R.2.2.1.length}:=by unfold nu;rw[hR]
 rw[hR] at HC hle heq;have Mi:=ah Wj;clear Wj hR;have Z7:=ah heq;clear heq ho hr hs hsm;cases sw with
 |false=>
  simp only[Bool.false_eq_true,if_false] at hblk HC ⊢;have x0:W.cell? ⟨g,0,none⟩=some (.pointer (some ⟨ga,0,none⟩)):=hblk.cell 0;have x8:W.cell? ⟨g,8,none⟩=some (.int .i64 now):=hblk.cell 8;have y0:W.drew.cell? ⟨g,0,none⟩=some (.pointer (some ⟨ga,0,none⟩)):=x0;have y8:W.drew.cell? ⟨g,8,none⟩=some (.int .i64 now):=x8;clear hblk h;go_enter Tryz.func15,Tryz.ntmps15;go_upto_region 1 with fail
  go_cut [7,8] (fun s7 s8 wx=>∃Ao co vs na' kD,s7= .slice Ao R.2.2.1.length co∧s8= .int .i64 R.2.2.2∧na'≤na+1∧sO w0 false g ga gb c {a with s:=R.1,r:=R.2.1} b na' nb kD Fb v0 v1 u0 u1 now wx∧jd wx wx.heap.size Ao R.2.2.1.length co vs R.2.2.1)
  case first=>
   go_region_law (go_simp;(with_reducible refine HC.out.mono ?_);rintro e4 w4 ⟨Ao,co,vs,n4,qB,rfl,Ow,hL4,hs4⟩)
   all_goals
    go_wp2_with fail;go_meet;exact ⟨_,_,_,_,_,rfl,rfl,Ow,hL4,hs4⟩
  case rest=>
   obtain ⟨Ao,co,vs,n4,qB,rfl,rfl,Ow,hL4,hs4⟩:=hcut;obtain ⟨ys,hys⟩:=hL4.r.i1;obtain ⟨Ai,ci,hu1,hsi⟩:=hys.Ve hL4.r.lN.size;subst hu1;have dI:=hL4.blk;unfold uU at dI;simp only[Bool.false_eq_true,if_false] at dI;have x6:wc.cell? ⟨g,6,none⟩=some (.int .i64 a.out):=dI.cell 6;have x5:wc.cell? ⟨g,5,none⟩=some (.slice Ai b.iD.length ci):=dI.cell 5;have f6:=dI.frozen 6;have hcap:=hs4.sl.cap;have hmx:=hs4.sl.mx;have hcap2:=hsi.sl.cap;have aim:=hsi.sl.mx;obtain ⟨s1,r1,outs,er⟩:=R;dsimp only at hL4 hs4 hle Z7 hcap ⊢;have hgt:decide ((b.iD.length:Int)<(a.out:Int)+(outs.length:Int))=false:=decide_eq_false (by omega);have ZP:=ah hL4;have Xe:=ah Ow;have KU:=ah (fun (w9:World) (uo:Below wc.heap.size wc w9)=>(show w9.cell? ⟨g,6,none⟩=some (.int .i64 a.out)∧w9.frozen? ⟨g,6,none⟩=false from ⟨(dI.below uo dI.lt).cell 6,(dI.below uo dI.lt).frozen 6⟩));cases Ai with
   |none=>
    have h0:b.iD.length=0:=by
     rcases Nat.eq_zero_or_pos b.iD.length with e|e
     ·exact e
     ·obtain ⟨ad,e2,_⟩:=hsi.sl.at_ e;cases e2
    have ho0:outs= []:=List.eq_nil_of_length_eq_zero (by omega);subst ho0;have ha0:a.out=0:=by simp at hle;omega
    have Ei:=nY Ao none 0 co 0 0 vs [] [] [] wc hs4 ⟨⟨rfl,aN,by omega,fun h=>by omega⟩,rfl,fun i p hi=>by simp at hi⟩;rw[beq_self_eq_true] at Ei;have Zd:=ah Ei;have hci:ci=0:=by
     rcases hys.1.2 with ⟨e,_⟩|⟨q,cap,cur,e,_⟩
     ·injection e with _ _ e3
     ·cases e
    subst hci;clear Ei hs4 hsi hys hL4 Ow dI;rw[h0] at x5 hgt;rw[ha0] at x6 KU hgt;go_wp2_with (go_at_call 47;refine Zd.out.mono ?_;rintro e9 w9 ⟨rfl,uo⟩;obtain ⟨q6,r6⟩:=KU.out _ uo);go_ret;have hM:=ZP.out.below uo;refine ⟨n4,qB,rfl,Xe.out,?_⟩;rw[Mi.out];exact ⟨(hM.r.cell 6 _).NZ (a.out+([]:List (List UInt8)).length) b.out,by
     have hB:=hM.blk.av 6 (.int .i64 0);unfold uU at hB ⊢;simpa[ha0] using hB⟩
   |some ad=>
    have Ei:=nY Ao _ _ co _ _ vs _ outs _ wc hs4 (hsi.Wl hle);rw[←Z7.out,beq_self_eq_true] at Ei;obtain ⟨AA,hif⟩:∃AA,(if ci=a.out then some ad else some (ad.add a.out))=AA:=⟨_,rfl⟩
    rw[hif] at Ei;have Zd:=ah Ei;clear Ei hs4 hsi hys hL4 Ow dI;go_wp2_with (go_at_call 47;refine Zd.out.mono ?_;rintro e9 w9 ⟨rfl,uo⟩;obtain ⟨q6,r6⟩:=KU.out _ uo);go_ret;have hM:=ZP.out.below uo;refine ⟨n4,qB,rfl,Xe.out,?_⟩;rw[Mi.out];exact ⟨(hM.r.cell 6 _).NZ (a.out+outs.length) b.out,by
     have hB:=hM.blk.av 6 (.int .i64 ((a.out:Int)+(outs.length:Int)));unfold uU at hB ⊢;simpa using hB⟩
 |true=>
  simp only[if_true] at hblk HC ⊢;have x0:W.cell? ⟨g,1,none⟩=some (.pointer (some ⟨ga,0,none⟩)):=hblk.cell 1;have x8:W.cell? ⟨g,8,none⟩=some (.int .i64 now):=hblk.cell 8;have y0:W.drew.cell? ⟨g,1,none⟩=some (.pointer (some ⟨ga,0,none⟩)):=x0;have y8:W.drew.cell? ⟨g,8,none⟩=some (.int .i64 now):=x8;clear hblk h;go_enter Tryz.func15,Tryz.ntmps15;go_upto_region 1 with fail
  go_cut [7,8] (fun s7 s8 wx=>∃Ao co vs na' kD,s7= .slice Ao R.2.2.1.length co∧s8= .int .i64 R.2.2.2∧na'≤na+1∧sO w0 true g ga gb c {a with s:=R.1,r:=R.2.1} b na' nb kD Fb v0 v1 u0 u1 now wx∧jd wx wx.heap.size Ao R.2.2.1.length co vs R.2.2.1)
  case first=>
   go_region_law (go_simp;(with_reducible refine HC.out.mono ?_);rintro e4 w4 ⟨Ao,co,vs,n4,qB,rfl,Ow,hL4,hs4⟩)
   all_goals
    go_wp2_with fail;go_meet;exact ⟨_,_,_,_,_,rfl,rfl,Ow,hL4,hs4⟩
  case rest=>
   obtain ⟨Ao,co,vs,n4,qB,rfl,rfl,Ow,hL4,hs4⟩:=hcut;obtain ⟨ys,hys⟩:=hL4.r.i1;obtain ⟨Ai,ci,hu1,hsi⟩:=hys.Ve hL4.r.lN.size;subst hu1;have dI:=hL4.blk;unfold uU at dI;simp only[if_true] at dI;have x6:wc.cell? ⟨g,7,none⟩=some (.int .i64 a.out):=dI.cell 7;have x5:wc.cell? ⟨g,4,none⟩=some (.slice Ai b.iD.length ci):=dI.cell 4;have f6:=dI.frozen 7;have hcap:=hs4.sl.cap;have hmx:=hs4.sl.mx;have hcap2:=hsi.sl.cap;have aim:=hsi.sl.mx;obtain ⟨s1,r1,outs,er⟩:=R;dsimp only at hL4 hs4 hle Z7 hcap ⊢;have hgt:decide ((b.iD.length:Int)<(a.out:Int)+(outs.length:Int))=false:=decide_eq_false (by omega);have ZP:=ah hL4;have Xe:=ah Ow;have KU:=ah (fun (w9:World) (uo:Below wc.heap.size wc w9)=>(show w9.cell? ⟨g,7,none⟩=some (.int .i64 a.out)∧w9.frozen? ⟨g,7,none⟩=false from ⟨(dI.below uo dI.lt).cell 7,(dI.below uo dI.lt).frozen 7⟩));cases Ai with
   |none=>
    have h0:b.iD.length=0:=by
     rcases Nat.eq_zero_or_pos b.iD.length with e|e
     ·exact e
     ·obtain ⟨ad,e2,_⟩:=hsi.sl.at_ e;cases e2
    have ho0:outs= []:=List.eq_nil_of_length_eq_zero (by omega);subst ho0;have ha0:a.out=0:=by simp at hle;omega
    have Ei:=nY Ao none 0 co 0 0 vs [] [] [] wc hs4 ⟨⟨rfl,aN,by omega,fun h=>by omega⟩,rfl,fun i p hi=>by simp at hi⟩;rw[beq_self_eq_true] at Ei;have Zd:=ah Ei;have hci:ci=0:=by
     rcases hys.1.2 with ⟨e,_⟩|⟨q,cap,cur,e,_⟩
     ·injection e with _ _ e3
     ·cases e
    subst hci;clear Ei hs4 hsi hys hL4 Ow dI;rw[h0] at x5 hgt;rw[ha0] at x6 KU hgt;go_wp2_with (go_at_call 47;refine Zd.out.mono ?_;rintro e9 w9 ⟨rfl,uo⟩;obtain ⟨q6,r6⟩:=KU.out _ uo);go_ret;have hM:=ZP.out.below uo;refine ⟨n4,qB,rfl,Xe.out,?_⟩;rw[Mi.out];exact ⟨(hM.r.cell 7 _).NZ (a.out+([]:List (List UInt8)).length) b.out,by
     have hB:=hM.blk.av 7 (.int .i64 0);unfold uU at hB ⊢;simpa[ha0] using hB⟩
   |some ad=>
    have Ei:=nY Ao _ _ co _ _ vs _ outs _ wc hs4 (hsi.Wl hle);rw[←Z7.out,beq_self_eq_true] at Ei;obtain ⟨AA,hif⟩:∃AA,(if ci=a.out then some ad else some (ad.add a.out))=AA:=⟨_,rfl⟩
    rw[hif] at Ei;have Zd:=ah Ei;clear Ei hs4 hsi hys hL4 Ow dI;go_wp2_with (go_at_call 47;refine Zd.out.mono ?_;rintro e9 w9 ⟨rfl,uo⟩;obtain ⟨q6,r6⟩:=KU.out _ uo);go_ret;have hM:=ZP.out.below uo;refine ⟨n4,qB,rfl,Xe.out,?_⟩;rw[Mi.out];exact ⟨(hM.r.cell 7 _).NZ (a.out+outs.length) b.out,by
     have hB:=hM.blk.av 7 (.int .i64 ((a.out:Int)+(outs.length:Int)));unfold uU at hB ⊢;simpa using hB⟩
end
end
section
open Go.RowKit Go.Shelf
attribute [local go_sem] Oper.semAt_some
def OB (what:Int) (who:Bool) (n pick:UInt8) (A:Option Addr) (m cc:Nat):Array Value:= #[.int .i64 what,.bool who,.int .u8 n.toNat,.int .u8 pick.toNat,.slice A m cc]
def CZ (w0:World) (sw:Bool) (g ga gb:Nat) (c:Cf) (a b:En) (M:Nat) (now:Int) (W:World):Prop:=∃na nb Fa Fb v0 v1 u0 u1,na≤M∧nb≤M∧sO w0 sw g ga gb c a b na nb Fa Fb v0 v1 u0 u1 now W
theorem CZ.swap {w0 W:World} {sw:Bool} {g ga gb M:Nat} {c:Cf} {a b:En} {now:Int} (h:CZ w0 sw g ga gb c a b M now W):CZ w0 (!sw) g gb ga c b a M now W:=by
 obtain ⟨na,nb,Fa,Fb,v0,v1,u0,u1,h1,h2,h3⟩:=h;exact ⟨_,_,_,_,_,_,_,_,h2,h1,h3.swap⟩
theorem CZ.below {w0 W W':World} {sw:Bool} {g ga gb M:Nat} {c:Cf} {a b:En} {now:Int} (h:CZ w0 sw g ga gb c a b M now W) (hb:Below W.heap.size W W'):CZ w0 sw g ga gb c a b M now W':=by
 obtain ⟨na,nb,Fa,Fb,v0,v1,u0,u1,h1,h2,h3⟩:=h;exact ⟨_,_,_,_,_,_,_,_,h1,h2,h3.below hb⟩
section
variable {w0 W W':World} {sw:Bool} {g ga gb na nb na' G J K M:Nat} {c:Cf} {a b:En} {s:Sd} {r:Rc} {Fa Fb kD:Fp} {v0 v1 u0 u1:Value} {now:Int}
theorem CG (h:sO w0 sw g ga gb c a b na nb Fa Fb v0 v1 u0 u1 now W) (ho:fq c a.s K) {A:Option Addr} {m cc:Nat} {x:List UInt8} (hx:Sl W W.heap.size A m cc (bQ x)):
 Calls Tryz.prog 21 #[.pointer (some ⟨ga,0,none⟩),.slice A m cc] W fun e W'=>∃kD,e= .returned (.int .i64 (aW c a.s x).2)∧sO w0 sw g ga gb c {a with s:=(aW c a.s x).1,r:=a.r} b na nb kD Fb v0 v1 u0 u1 now W'∧∀k,k<W.heap.size→¬Fa k→W'.heap[k]? =W.heap[k]? :=by
 refine (yX h.r.ea ho hx).mono ?_;rintro e W' ⟨rfl,hG⟩;obtain ⟨kD,hR,_⟩:=hG.toR;exact ⟨kD,rfl,h.call hR,fun k hl hn=>jh hR.kp hl fun o e=>hn e.1⟩
def Wm (w0:World) (sw:Bool) (g ga gb:Nat) (c:Cf) (R:En × En × Int) (M:Nat) (e:Ending) (W':World):Prop:=e= .returned (.bool true)∧CZ w0 sw g ga gb c R.1 R.2.1 M R.2.2 W'
end
end
section
open Go.RowKit Go.Shelf
attribute [local go_sem] Oper.semAt_some
section
variable {w0 W W':World} {g ga gb na nb na' G J K M:Nat} {c:Cf} {a b:En} {s:Sd} {r:Rc} {Fa Fb kD:Fp} {v0 v1 u0 u1:Value} {now:Int}
set_option maxRecDepth 100000 in
set_option maxHeartbeats 4000000 in
theorem U3 (h:sO w0 false g ga gb c a b na nb Fa Fb v0 v1 u0 u1 now W) (P:yu c a b G J K) (hna:na≤M) (hnb:nb≤M) (hM:M≤100000) (hG:G<511) (hK:K≤70000) (hJ:J≤99000) (zb:0≤now) (dM:now≤9223372036854775800) (what:Int) (n pick:UInt8)
 {A:Option Addr} {m cc:Nat} {x:List UInt8} (hx0:Sl w0 w0.heap.size A m cc (bQ x)) (Ju:x.length≤60):
 Calls Tryz.prog 12 #[.pointer (some ⟨g,0,none⟩),.agg (OB what false n pick A m cc)] W (Wm w0 false g ga gb c (kP c a b now what n pick x) (M+1)):=by
 obtain ⟨j0,hj0,hm0,hm1,hm2⟩:=info_parts nN;have hlen:x.length=m:=by simpa using hx0.len
 have hx:=hx0.below h.r.lN;have HX0:=ah hx0;have hz:=h.r.lN.size;have bev:=au.new W 33 (OB what false n pick A m cc);have hL:=h.below ((Below.refl _ W).alloc (aN) (.cells (OB what false n pick A m cc) 33));have hxL:=hx.below ((Below.refl w0.heap.size W).alloc hz (.cells (OB what false n pick A m cc) 33));have hgl:=h.blk.lt;have HNF:=ah (fun e=>by have:=h.r.ea.lt W.heap.size e;omega:¬Fa W.heap.size);have HZ1:=ah (show (W.alloc (.cells (OB what false n pick A m cc) 33)).heap.size=W.heap.size+1 by simp);have Zf:=P.step hG (by omega) (now:=now) (by omega) what n pick (x:=x) Ju;have hsn:=sQ c a b now what n pick x;have hsb:=Ml c a b now what n pick x;obtain ⟨S,hS⟩:∃S,kP c a b now what n pick x=S:=⟨_,rfl⟩
 rw[hS] at Zf hsn hsb ⊢;have zW:=ah Zf;have Zg:=ah hS;have HP:=ah P;have Gv:=ah hL;have HX:=ah hxL;have Rv:=ah bev;unfold OB at*;clear h hx hx0 Zf hS P hL hxL bev;go_enter Tryz.func12,Tryz.ntmps12
 go_upto_block 0 with (fail)
 go_cut [6] from 11 to 95 (fun s6 wx=>CZ w0 false g ga gb c S.1 S.2.1 (M+1) S.2.2 wx)
 case first=>
  have hblk:=Gv.out.blk;unfold uU at hblk;simp only[Bool.false_eq_true,if_false] at hblk;have p0:=hblk.cell 0;have p8:=hblk.cell 8;have p8f:=hblk.frozen 8;simp only[List.getElem?_toArray,List.getElem?_cons_succ,List.getElem?_cons_zero] at p0 p8;have ev2:=Rv.out.cell 2;have ev3:=Rv.out.cell 3;have ev4:=Rv.out.cell 4;simp only[List.getElem?_toArray,List.getElem?_cons_succ,List.getElem?_cons_zero] at ev2 ev3 ev4;generalize W.alloc (.cells #[.int .i64 what,.bool false,.int .u8 n.toNat,.int .u8 pick.toNat,.slice A m cc] 33)=W1 at*;have p0':W1.drew.cell? ⟨g,0,none⟩=some (.pointer (some ⟨ga,0,none⟩)):=p0;have p8':W1.drew.cell? ⟨g,8,none⟩=some (.int .i64 now):=p8;have aip:W1.drew.frozen? ⟨g,8,none⟩=false:=p8f;have aiq:W1.drew.cell? ⟨W.heap.size,2,none⟩=some (.int .u8 n.toNat):=ev2;have air:W1.drew.cell? ⟨W.heap.size,3,none⟩=some (.int .u8 pick.toNat):=ev3;have Zh:W1.drew.cell? ⟨W.heap.size,4,none⟩=some (.slice A m cc):=ev4;have HEL:=ah (show W.heap.size<W1.drew.heap.size from Rv.out.lt);have hn8:=n.toNat_lt;have hpk:=pick.toNat_lt;have hnw:IntKind.i64.wrap (n.toNat:Int)=(n.toNat:Int):=IntWalk.i64_in _ (by omega);have hpw:IntKind.i64.wrap (pick.toNat:Int)=(pick.toNat:Int):=IntWalk.i64_in _ (by omega);rw[IntKind.wrap_i64] at hnw hpw;by_cases N7:what=0
  ·subst N7;have qE:=Zg.out;unfold kP at qE;rw[if_pos rfl] at qE;have lX:=ah qE.symm;have hxs:Sl W1.drew W1.drew.heap.size A m cc (bQ x):=(HX.out.below (Below.refl _ W1).drew).more (by have:=Gv.out.r.lN.size;exact this);have HC:=ah (CG (Gv.out.below (Below.refl _ W1).drew) HP.out.oa hxs);clear qE hblk hsn hsb;go_upto_region 7 with (fail)
   go_cut [35] from 25 to 34 (fun s35 wx=>s35= .bool (decide ((aW c a.s x).2=0))∧∃kD,sO w0 false g ga gb c {a with s:=(aW c a.s x).1,r:=a.r} b na nb kD Fb v0 v1 u0 u1 now wx∧Below w0.heap.size w0 wx∧wx.cell? ⟨W.heap.size,4,none⟩=some (.slice A m cc))
   case first=>
    have aiu:((aW c a.s x).2==0)=decide ((aW c a.s x).2=0):=by rw[Bool.eq_iff_iff];simp
    go_region_law (first
     |(go_simp;(with_reducible refine HC.out.mono ?_);rintro e4 w4 ⟨qB,rfl,hL4,hk4⟩)
     |(go_simp;(with_reducible refine (kZ _ _).mono ?_);rintro e5 w5 ⟨rfl,rfl⟩))
    all_goals
     go_wp2_with fail;go_meet;exact ⟨rfl,qB,hL4,hL4.r.lN,(World.cell?_of_block (a:=⟨W.heap.size,4,none⟩) (hk4 W.heap.size HEL.out HNF.out)).trans Zh⟩
   case rest=>
    obtain ⟨rfl,qB,hL4,hb4,Zi⟩:=hcut;clear HC;by_cases hsub:(aW c a.s x).2=0
    ·obtain ⟨z1,z2⟩:=qC (c:=c) hsub;rw[decide_eq_true hsub];have hS2:S=({a with s:=eG a.s x,iD:=a.iD++ [x]},b,now):=by rw[lX.out];unfold qD;rw[if_pos hsub]
     have HS2:=ah hS2;rw[z1] at hL4;dsimp only at hL4;clear z1 hS2 hsub;have hil:=HP.out.ia;obtain ⟨vs,hvs⟩:=hL4.r.i0;obtain ⟨A0,c0,hv0,_,_⟩:=aS hvs.1;subst hv0;have Rw:Value.slice A m cc=Value.slice A x.length cc:=by rw[hlen]
     have Jp:=(hL4.below ((Below.refl _ wc).alloc (aN) (.cells #[.slice A m cc] 31))).below (Below.refl _ _).drew;have uV:(wc.alloc (.cells #[.slice A m cc] 31)).drew.ownsRow w0.heap.size 31 1 (.slice A0 a.iD.length c0) a.iD.length vs:=World.ownsRow.drew' (hvs.1.alloc _);have hxA:Sl (wc.alloc (.cells #[.slice A m cc] 31)).drew w0.heap.size A x.length cc (bQ x):=by
      have h1:=HX0.out.below Jp.r.lN;rw[hlen];exact h1
     have Rs:=ah (fun (v':Value) (W':World) hown hg hb=>Jp.r.Wi (v':=v') (W':=W') uV hxA hown hg hb);rw[←Rw] at Rs;have OP:=ah uV;have OA:=ah Jp.blk;have HZ:=ah hL4.r.lN.size;have dI:=hL4.blk;unfold uU at dI;simp only[Bool.false_eq_true,if_false] at dI;have x2:wc.cell? ⟨g,4,none⟩=some (.slice A0 a.iD.length c0):=dI.cell 4;have U1:(wc.alloc (.cells #[.slice A m cc] 31)).cell? ⟨g,4,none⟩=some (.slice A0 a.iD.length c0):=(dI.alloc _).cell 4;have x2b:(wc.alloc (.cells #[.slice A m cc] 31)).drew.cell? ⟨g,4,none⟩=some (.slice A0 a.iD.length c0):=U1;have ad5:wc.drew.cell? ⟨W.heap.size,4,none⟩=some (.slice A m cc):=Zi;have hsz:=World.size_alloc wc (.cells #[.slice A m cc] 31);have HS:=ah hsz;have aiv:a.iD.length≤99000:=by omega
     clear hvs Jp uV hxA hL4 dI hsz Rw;go_upto_region 8 with (fail)
     go_region_law ((refine dG _ (by rfl) _ _ 37 (by rfl) w0.heap.size 31 j0 (.slice none 0 0) 24 qH hj0 hm0 hm1 hm2 rfl (.slice A0 a.iD.length c0) a.iD.length vs (by rfl) OP.out (wc.alloc (.cells #[.slice A m cc] 31)).heap.size (some ⟨wc.heap.size,0,none⟩) 1 1 [.slice A m cc] (by rfl) (lg wc (.slice A m cc) 31) (by simp[Value.oneCell']) (by unfold maxLen;omega) (by omega) (by have:=HS.out;have:=HZ.out;simp;omega) ?_;intro v5 w5 hown5 cB hb5;obtain ⟨A5,c5,rfl,hs5,_⟩:=aS hown5;obtain ⟨hP,hg5⟩:=Rs.out _ w5 hown5 cB hb5;have pW:=hg5.trans OA.out;have q2:=au.cell pW 4;have q3:=au.frozen pW 4;unfold uU at q2;simp at q2))
     all_goals
      have hL:sO w0 false g ga gb c {a with s:=eG a.s x,iD:=a.iD++ [x]} b na nb qB Fb v0 v1 (.slice A5 (a.iD.length+1) c5) u1 now (w5.setCell ⟨g,4,none⟩ (.slice A5 (a.iD.length+1) c5)):=⟨hP.cell 4 _,by
       have hB:=au.av pW 4 (.slice A5 (a.iD.length+1) c5);unfold uU at hB ⊢;simpa using hB⟩
      go_wp2_with fail;go_meet;rw[HS2.out];exact ⟨_,_,_,_,_,_,_,_,by omega,by omega,hL⟩
    ·rw[decide_eq_false hsub];have hS2:S=(a,b,now):=by rw[lX.out];unfold qD;rw[if_neg hsub]
     have HS2:=ah hS2;rw[za hsub] at hL4;have HL4:=ah hL4;clear hS2 hsub hL4;go_wp2_with fail;go_meet;rw[HS2.out];exact ⟨_,_,_,_,_,_,_,_,by omega,by omega,HL4.out⟩
  by_cases Ry:what=1∨what=2∨what=3
  ·have qE:=Zg.out;unfold kP at qE;rw[if_neg N7,if_pos Ry] at qE;have lX:=ah qE.symm;have HC:=ah (yZ Gv.out HP.out.oa (by omega) HP.out.ra (by omega) (by have:=HP.out.la;omega) (n.toNat:Int) (by omega));unfold Jo at HC;simp only[Bool.false_eq_true,if_false] at HC;clear qE hblk hsn hsb;rcases Ry with rfl|rfl|rfl
   all_goals
    go_wp2_with fail;refine HC.out.mono ?_;rintro e9 w9 ⟨b9,Fa9,v9,rfl,Rz⟩;go_wp2_with fail;go_meet;rw[lX.out];exact ⟨_,_,_,_,_,_,_,_,by omega,by omega,Rz⟩
  have qE:=Zg.out;unfold kP at qE;by_cases RA:what=4∨what=5∨what=6∨what=7
  ·rw[if_neg N7,if_neg Ry,if_pos RA] at qE;obtain ⟨vs,hvs⟩:=Gv.out.r.s1;obtain ⟨A1,c1,hv1,hsl1,_⟩:=aS hvs.1;subst hv1;have x1:W1.cell? ⟨g,3,none⟩=some (.slice A1 b.sent.length c1):=hblk.cell 3;have x1':W1.drew.cell? ⟨g,3,none⟩=some (.slice A1 b.sent.length c1):=x1;have hlb:=HP.out.lb;rcases Nat.eq_zero_or_pos b.sent.length with hb0|hbp
   ·have hS2:S=(a,b,now):=by
     rw[←qE,List.eq_nil_of_length_eq_zero hb0];rfl
    have HS2:=ah hS2;rw[hb0] at x1 x1';clear hvs hsl1 qE hS2 hblk hsn hsb hlb hb0;rcases RA with rfl|rfl|rfl|rfl
    all_goals
     go_upto_region 18 with (fail)
     go_quiet (fail)
     go_wp2_with fail;go_meet;rw[HS2.out];exact ⟨na,nb,Fa,Fb,_,_,_,_,by omega,by omega,Gv.out.below ((Below.refl _ W1).drewN _)⟩
   ·obtain ⟨j,hj⟩:∃j,pick.toNat%b.sent.length=j:=⟨_,rfl⟩
    have hjl:j<b.sent.length:=by rw[←hj];exact Nat.mod_lt _ hbp
    obtain ⟨y,hy⟩:∃y,b.sent[j]? =some y:=⟨_,List.getElem?_eq_getElem hjl⟩
    have hmem:=List.mem_of_getElem? hy;have hS2:S=(nu c a now y,b,now):=by
     rw[←qE,hj,hy]
    obtain ⟨vi,e1,e2,e3⟩:=hvs.2 j y hy;obtain ⟨Ay,cy,hvy,hsy,_⟩:=aS e2;subst hvy;obtain ⟨ad1,hA1,Bh,hcl⟩:=hsl1.at_ hbp;subst hA1;have xj:W1.cell? (ad1.add j)=some (.slice Ay y.length cy):=hcl j _ e1;have xj':W1.drew.cell? (ad1.add j)=some (.slice Ay y.length cy):=xj;obtain ⟨q1,q2,q3⟩:=HP.out.recv now (by omega) hmem;have hsy2:=(HP.out.sb y hmem).2;have U4:=CF (Gv.out.below (Below.refl _ W1).drew) HP.out.oa (by omega) HP.out.ra (by unfold maxLen;omega) (by omega) Ay y.length cy y (fun W2 hk=>by
     have h2:W2.ownsRow w0.heap.size 5 1 (.slice Ay y.length cy) y.length (bQ y):=bT e2 fun k hk2=>by
      obtain ⟨cs,fr,hc⟩:=mr e2 hk2;exact (hk.same k (.cells cs 5 fr) hc fun e=>e3 k hk2 (.inl (e.2 ⟨cs,fr,rfl⟩))).trans hc.symm
     obtain ⟨A',c',e',hs',_⟩:=aS h2;cases e';exact hs') (by omega) (by have:=HP.out.ib;omega) q2 q3
    unfold Jo at U4;simp only[Bool.false_eq_true,if_false] at U4;have HGV:=ah U4;have HS2:=ah hS2;have ad7:decide ((0:Int)<(b.sent.length:Int))=true:=decide_eq_true (by omega);have hjm:(pick.toNat:Int)%(b.sent.length:Int)=(j:Int):=by rw[←hj];rfl
    have hj0:(0:Int)≤(j:Int):=by omega
    have hj1:(j:Int)<(b.sent.length:Int):=by omega
    have aiy:((b.sent.length:Int)==0)=false:=by
     cases h0:((b.sent.length:Int)==0) with
     |false=>rfl
     |true=>exact absurd (eq_of_beq h0) (by omega)
    clear hvs hsl1 qE hS2 hblk hsn hsb hlb e1 e2 e3 hsy hcl q1 q2 q3 U4 hmem hy hj hsy2;rcases RA with rfl|rfl|rfl|rfl
    all_goals
     go_upto_region 18 with (fail)
     go_cut [95] from 74 to 94 (fun s95 wx=>s95= .bool false∧CZ w0 false g ga gb c (nu c a now y) b (M+1) now wx)
     case first=>
      have aiA:IntKind.i64.wrap 1=1:=by decide
      have aiB:IntKind.i64.wrap (pick.toNat:Int)=(pick.toNat:Int):=IntWalk.i64_in _ (by omega);have aiC:¬b.sent= []:=fun e=>by rw[e] at hbp;simp at hbp
      have htm:(pick.toNat:Int).tmod (b.sent.length:Int)=(j:Int):=by rw[Int.tmod_eq_emod_of_nonneg (by omega)];exact hjm
      have aiD:IntKind.i64.wrap 0=0:=by decide
      refine wp_region_still_tail 19 (by kernel_rfl) (by kernel_rfl) ?_;simp only[List.take_succ_cons,List.take_zero,List.drop_succ_cons,List.drop_zero]
      still_step
      still_step
      still_step
      still_step
      still_step
      still_step
      still_step
      still_step
      still_step
      still_step
      still_step
      still_step
      still_step
      still_step
      still_step
      still_step
      still_step
      still_step
      still_step
      refine wpStill_nil ?_;change wpList _ _ _ _ _ W1.drew;go_wp2_with fail;refine HGV.out.mono ?_;rintro e9 w9 ⟨n9,Fa9,rfl,hn9,Rz⟩;go_wp2_with fail;go_meet;exact ⟨rfl,_,_,_,_,_,_,_,_,by omega,by omega,Rz⟩
     case rest=>
      obtain ⟨rfl,Rz⟩:=hcut;go_wp2_with fail;go_meet;rw[HS2.out];exact Rz
  ·rw[if_neg N7,if_neg Ry,if_neg RA] at qE;have lX:=ah qE.symm;have q0:(what==0)=false:=by simpa using N7
   have q1:(what==1)=false:=by simp;omega
   have q2:(what==2)=false:=by simp;omega
   have q3:(what==3)=false:=by simp;omega
   have q4:(what==4)=false:=by simp;omega
   have q5:(what==5)=false:=by simp;omega
   have q6:(what==6)=false:=by simp;omega
   have q7:(what==7)=false:=by simp;omega
   have hm8:=Nat.mod_lt n.toNat (show 8>0 by omega);have hcast:((n.toNat%8:Nat):Int)=(n.toNat:Int)%8:=by omega
   rw[hcast] at lX;have HLN:=ah (show CZ w0 false g ga gb c a b (M+1) (now+(n.toNat:Int)%8) (W1.setCell ⟨g,8,none⟩ (.int .i64 (now+(n.toNat:Int)%8))).drew from
    CZ.below ⟨na,nb,Fa,Fb,v0,v1,u0,u1,by omega,by omega,((Gv.out.r.cell 8 _).NZ a.out b.out),by
     have hB:=Gv.out.blk.av 8 (.int .i64 (now+(n.toNat:Int)%8));unfold uU at hB ⊢;simpa using hB⟩ (Below.refl _ _).drew)
   have hwn:IntKind.i64.wrap (now+(n.toNat:Int)%8)=now+(n.toNat:Int)%8:=IntWalk.i64_in _ (by omega);rw[IntKind.wrap_i64] at hwn;clear qE hblk hsn hsb N7 Ry RA;go_upto_region 5 with (fail)
   go_region
   all_goals
    go_wp2_with fail;go_meet;rw[lX.out];exact HLN.out
 case rest=>
  obtain ⟨na2,nb2,Fa2,Fb2,y0_,y1_,y2_,y3_,_,_,hM⟩:=id hcut;have VK:=ah hcut;have hblk:=hM.blk;unfold uU at hblk;simp only[Bool.false_eq_true,if_false] at hblk;have RB:∀V,Below wc.heap.size wc V→V.cell? ⟨g,0,none⟩=some (.pointer (some ⟨ga,0,none⟩))∧V.cell? ⟨g,1,none⟩=some (.pointer (some ⟨gb,0,none⟩))∧V.cell? ⟨g,6,none⟩=some (.int .i64 S.1.out)∧V.cell? ⟨g,7,none⟩=some (.int .i64 S.2.1.out):=fun V hV=>by
   have b0:=hblk.below hV hblk.lt;exact ⟨b0.cell 0,b0.cell 1,b0.cell 6,b0.cell 7⟩
  have HS:=ah RB;have zN:=ah (fun (V:World) (hV:Below wc.heap.size wc V)=>jc (hM.r.ea.below hV) zW.out.oa);have Z9:=ah (fun (V:World) (hV:Below wc.heap.size wc V)=>jc (hM.r.eb.below hV) zW.out.ob);have hd1:decide ((S.1.s.done:Int)≤(S.2.1.out:Int))=true:=decide_eq_true (by have:=zW.out.da.confirmed;omega);have hd2:decide ((S.2.1.s.done:Int)≤(S.1.out:Int))=true:=decide_eq_true (by have:=zW.out.db.confirmed;omega);have aiF:decide (S.1.s.done≤S.2.1.out)=true:=decide_eq_true zW.out.da.confirmed;have aiG:decide (S.2.1.s.done≤S.1.out)=true:=decide_eq_true zW.out.db.confirmed;have hb0:=(Below.refl wc.heap.size wc).drew;clear hblk RB hM hcut hsn hsb;go_upto_region 20 with (fail)
  refine bJ (fun w'=>w'.cell? ⟨g,0,none⟩=some (.pointer (some ⟨ga,0,none⟩))∧w'.cell? ⟨g,1,none⟩=some (.pointer (some ⟨gb,0,none⟩))∧w'.cell? ⟨g,6,none⟩=some (.int .i64 S.1.out)∧w'.cell? ⟨g,7,none⟩=some (.int .i64 S.2.1.out)) [] (by kernel_rfl) ?_;have hHeld:=HS.out _ hb0;refine aT 0 rfl hHeld ?_
  try simp only[Act.put,aD,aF,ay,aA,aB]
  refine aT 1 rfl hHeld ?_
  try simp only[Act.put,aD,aF,aG,ay,aA,aB]
  refine aT 2 rfl hHeld ?_
  try simp only[Act.put,aD,aF,aG,ay,aA,aB]
  refine aT 3 rfl hHeld ?_
  try simp only[Act.put,aD,aF,aG,ay,aA,aB]
  refine iw [] 4 ?_ rfl (Or.inl ⟨by rfl,?_⟩) hHeld ?_;rotate_left
  ·intro w' hSw;obtain ⟨hS1,hS2,gK,ku⟩:=hSw;go_simp
   try with_reducible rfl
  try simp only[Act.put,aD,aF,aG,ay,aA,aB]
  refine aT 6 rfl hHeld ?_
  try simp only[Act.put,aD,aF,aG,ay,aA,aB]
  refine aT 7 rfl hHeld ?_
  try simp only[Act.put,aD,aF,aG,ay,aA,aB]
  refine aT 8 rfl hHeld ?_
  try simp only[Act.put,aD,aF,aG,ay,aA,aB]
  refine aT 9 rfl hHeld ?_
  try simp only[Act.put,aD,aF,aG,ay,aA,aB]
  refine iw [] 10 ?_ rfl (Or.inl ⟨by rfl,?_⟩) hHeld ?_;rotate_left
  ·intro w' hSw;obtain ⟨hS1,hS2,gK,ku⟩:=hSw;go_simp
   try with_reducible rfl
  try simp only[Act.put,aD,aF,aG,ay,aA,aB]
  refine aR (i:=5) rfl (by kernel_rfl) (by rfl) (fun K hK=> ?_);go_simp;refine (zN.out _ hb0).mono ?_;rintro e6 w6 ⟨rfl,hb6⟩;have hbx:=hb0.trans (hb6.mono hb0.size);refine hK _ _ (HS.out _ hbx) ?_;have hHeld:=(HS.out _ hbx);clear hK K
  try simp only[Act.put,aD,aF,aG,ay,aA,aB]
  refine aT 11 rfl hHeld ?_
  try simp only[Act.put,aD,aF,aG,ay,aA,aB]
  refine aT 12 rfl hHeld ?_
  try simp only[Act.put,aD,aF,aG,ay,aA,aB]
  refine aT 13 rfl hHeld ?_
  try simp only[Act.put,aD,aF,aG,ay,aA,aB]
  refine aT 14 rfl hHeld ?_
  try simp only[Act.put,aD,aF,aG,ay,aA,aB]
  refine aT 15 rfl hHeld ?_
  try simp only[Act.put,aD,aF,aG,ay,aA,aB]
  refine aT 16 rfl hHeld ?_
  try simp only[Act.put,aD,aF,aG,ay,aA,aB]
  refine iw [] 17 ?_ rfl (Or.inl ⟨by rfl,?_⟩) hHeld ?_;rotate_left
  ·intro w' hSw;obtain ⟨hS1,hS2,gK,ku⟩:=hSw;go_simp
   try with_reducible rfl
  try simp only[Act.put,aD,aF,aG,ay,aA,aB]
  refine aT 19 rfl hHeld ?_
  try simp only[Act.put,aD,aF,aG,ay,aA,aB]
  refine aT 20 rfl hHeld ?_
  try simp only[Act.put,aD,aF,aG,ay,aA,aB]
  refine aT 21 rfl hHeld ?_
  try simp only[Act.put,aD,aF,aG,ay,aA,aB]
  refine aT 22 rfl hHeld ?_
  try simp only[Act.put,aD,aF,aG,ay,aA,aB]
  refine iw [] 23 ?_ rfl (Or.inl ⟨by rfl,?_⟩) hHeld ?_;rotate_left
  ·intro w' hSw;obtain ⟨hS1,hS2,gK,ku⟩:=hSw;go_simp
   try with_reducible rfl
  try simp only[Act.put,aD,aF,aG,ay,aA,aB]
  refine aR (i:=18) rfl (by kernel_rfl) (by rfl) (fun K hK=> ?_);go_simp;refine (Z9.out _ hbx).mono ?_;rintro e7 w7 ⟨rfl,oZ⟩;have hbz:=hbx.trans (oZ.mono hbx.size);refine hK _ _ (HS.out _ hbz) ?_;have hHeld:=(HS.out _ hbz);clear hK K
  try simp only[Act.put,aD,aF,aG,ay,aA,aB]
  refine aT 24 rfl hHeld ?_
  try simp only[Act.put,aD,aF,aG,ay,aA,aB]
  refine aT 25 rfl hHeld ?_
  try simp only[Act.put,aD,aF,aG,ay,aA,aB]
  refine aT 26 rfl hHeld ?_
  try simp only[Act.put,aD,aF,aG,ay,aA,aB]
  refine bI (by kernel_rfl) ?_ _;go_wp2_with fail;go_ret;exact ⟨rfl,VK.out.below hbz⟩
end
end
end Go.Proofs.YtbhiklnljiehiaaGreat
