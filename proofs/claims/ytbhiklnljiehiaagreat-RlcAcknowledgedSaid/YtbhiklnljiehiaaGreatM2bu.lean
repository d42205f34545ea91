/- Unconfirmed: the SDUs that are not confi. -/
import Derived.Test.YtbhiklnljiehiaaGreatM2bt
namespace Go.Proofs.YtbhiklnljiehiaaGreat
section
open Go.RowKit Go.Shelf
attribute [local go_sem] Oper.semAt_some
theorem Dq.push {W W':World} {base:Nat} {v v' vi:Value} {l:List (List UInt8)} {vs:List Value} {q:List UInt8} (h:Dq W base (fun _=>False) v l vs) (hi:W.ownsRow base 5 1 vi q.length (bO q))
 (hown:W'.ownsRow base 31 1 v' (l.length+1) (vs++ [vi])) (hg:W.grownBy W' v.ownBlock):Dq W' base (fun _=>False) v' (l++ [q]) (vs++ [vi]):=by
 have hst:∀(vj:Value) (p:List UInt8),W.ownsRow base 5 1 vj p.length (bO p)→W'.ownsRow base 5 1 vj p.length (bO p):=fun vj p hp=>bX hp fun k hk=>by
  obtain ⟨cs,fr,hc⟩:=wB hp hk;refine hg.block k (lt_of_heap hc) fun e=> ?_
  obtain ⟨_,cs',fr',hc'⟩:=Ni h.1 k e.symm;rw[hc] at hc';injection hc' with h1
  injection h1 with _ h2 _
  exact absurd h2 (by decide)
 have hlen:vs.length=l.length:=by
  obtain ⟨_,_,_,hs,_⟩:=bq h.1;exact hs.len
 refine ⟨by simpa using hown,fun i p hp=> ?_⟩;rcases Nat.lt_or_ge i l.length with hlt|hge
 ·rw[List.getElem?_append_left hlt] at hp;obtain ⟨vj,e1,e2,e3⟩:=h.2 i p hp;exact ⟨vj,by rw[List.getElem?_append_left (by omega)];exact e1,hst vj p e2,e3⟩
 ·rw[List.getElem?_append_right hge] at hp;have h0:i-l.length=0:=by
   have:=(List.getElem?_eq_some_iff.1 hp).1;simp at this;omega
  rw[h0] at hp;simp at hp;subst hp;exact ⟨vi,by rw[List.getElem?_append_right (by omega),hlen,h0];rfl,hst vi q hi,fun _ _ e=>e⟩
theorem Dq.below {W W':World} {base:Nat} {v:Value} {l:List (List UInt8)} {vs:List Value} (h:Dq W base (fun _=>False) v l vs) (hb:Below W.heap.size W W'):Dq W' base (fun _=>False) v l vs:=
 h.stay (fun k hk=>hb.block k (h.1.lt k hk).2) (fun k _cs _fr _ hc=>hb.block k (lt_of_heap hc)) (fun _ _ e=>e)
section
variable {D F:Nat→Prop} {g:Nat} {c:Cf} {st:Sd} {vq vo:Value} {vs os:List Value} {w:World}
set_option maxRecDepth 10000 in
set_option maxHeartbeats 1000000 in
theorem EP (h:dV w D F g c st vq vs vo os) (ht:1≤c.timer) (hsum:aW st≤1048576) (YN:st.queue.length≤1048576):
 Calls Tryz.prog 60 #[.pointer (some ⟨g,0,none⟩)] w fun e w'=>(∃A cc vs,e= .returned (.slice A st.queue.length cc)∧Dq w' w.heap.size (fun _=>False) (.slice A st.queue.length cc) st.queue vs)∧Below w.heap.size w w':=by
 obtain ⟨i0,hi,hz0,hz1,hz2⟩:=info_parts nV;have kW:=ah (fP h ht);have HH:=ah h;have x7:=h.blk.cell 7;simp[dS] at x7;obtain ⟨A,cc,rfl,hs⟩:=h.EX;have hcap:=hs.sl.cap;have hmx:=hs.sl.mx;obtain ⟨r,hr⟩:∃r:Int,(if st.failed=true then 8 else 0)=r:=⟨_,rfl⟩
 have dr:(r==1)=false:=by rw[←hr];cases st.failed<;>rfl
 rw[hr] at kW;have pG:=ah hsum;clear h hs hr hsum;go_enter Tryz.func60,Tryz.ntmps60;go_wp2_with fail;refine kW.out.mono ?_;rintro e1 w1 ⟨rfl,rfl⟩;go_wp2
 go_loopw [2,13] (fun v i wr=>∃k xs,k≤st.queue.length∧i= .int .i64 (k:Nat)∧Dq wr w.heap.size (fun _=>False) v (st.queue.take k) xs∧Below w.heap.size w wr) (fun _ i _=>st.queue.length-(intOf i).toNat)
 case atStart=>exact ⟨0,[],Nat.zero_le _,rfl,Dq.nil _ _ _,Below.refl _ _⟩
 case round=>
  obtain ⟨k,xs,hk,rfl,gN,hb⟩:=hrel;by_cases hlt:k<st.queue.length
  ·obtain ⟨A2,c2,e2,hsw⟩:=(HH.out.below hb).EX;injection e2 with e3 e4 e5
   subst e3 e5;obtain ⟨ad,Ai,ci,rfl,hbd,hc,hsl⟩:=hsw.get hlt;have hle1:=Nat.le_trans (bV st.queue (k+1)) pG.out;have hs1:=fH st.queue k hlt;have hcap1:=hsl.cap;have V4:=hsl.mx;have htk:st.queue.take (k+1)=st.queue.take k++ [st.queue[k]?.getD []]:=by rw[List.take_add_one,List.getElem?_eq_getElem hlt];rfl
   generalize st.queue[k]?.getD []=p at*;have Jv:=ah htk;have hlk:(st.queue.take k).length=k:=by rw[List.length_take];omega
   have HLK:=ah hlk;have HG:=ah gN;have gN:=gN.1;rw[hlk] at gN;clear htk hlk;have hpl:p.length≤1048576:=by omega
   have pV:=ah (ji Ai p.length ci p wr hsl (by omega));have OE:=ah gN;have HB:=ah hb;clear hs1 hle1 hsl hsw gN hb e4;go_wp2_with fail;refine pV.out.mono ?_;rintro e1 w1 ⟨v1,rfl,hv1,hb1⟩;obtain ⟨A1,c1,rfl,-,-⟩:=bq hv1;have LV:=own_below OE.out hb1 (aN);have TI:=ah ((HG.out.below hb1).below ((Below.refl _ w1).alloc (aN) (.cells #[.slice A1 p.length c1] 31)));have HV1:=ah ((aU hv1 HB.out.size).alloc (.cells #[.slice A1 p.length c1] 31));clear HG;have hB1:=ah (HB.out.trans (hb1.mono HB.out.size));have OH:=ah LV;clear hv1 hb1 LV hc;go_wp2_with (at_builtin;refine wpList_append_own _ rfl _ _ 37 rfl w.heap.size 31 i0 (.slice none 0 0) 1 24 l7 hi hz0 hz1 hz2 rfl (by decide) _ _ _ rfl (OH.out.alloc _) ⟨w1.heap.size,0,none⟩ 1 1 [.slice A1 p.length c1] rfl rfl ?c1 ?c2 ?c3 ?c4 ?c5 ?_)
   case c1=>exact cell_one_new _ _ _
   case c2=>simp[Value.oneCell']
   case c3=>unfold maxLen;omega
   case c4=>omega
   case c5=>have:=hB1.out.size;simp;omega
   intro v' w4 hown' hgrow _;have hin:∀j,Value.ownBlock u2=some j→w.heap.size≤j:=fun j hj=>(OH.out.lt j hj).1
   have hB4:=ah ((hB1.out.alloc hB1.out.size (.cells #[.slice A1 p.length c1] 31)).grown hgrow (by have:=hB1.out.size;simp;omega) hin);have hown2:w4.ownsRow w.heap.size 31 1 v' ((st.queue.take k).length+1) (xs++ [.slice A1 p.length c1]):=by rw[HLK.out];exact hown'
   have HO:=ah (TI.out.push HV1.out hown2 hgrow);rw[←Jv.out] at HO;clear hown' hown2 hgrow hin TI HV1;go_wp2
   go_round
   case rel=>exact ⟨k+1,_,by omega,by go_num,HO.out,hB4.out⟩
   case measure=>simp[intOf];omega
  ·obtain rfl:k=st.queue.length:=by omega
   rw[List.take_length] at gN;obtain ⟨A1,c1,rfl,-,-⟩:=bq gN.1;have HB:=ah hb;have HV:=ah gN;clear gN hb;go_wp2;go_ret;exact ⟨⟨_,_,_,rfl,HV.out⟩,HB.out⟩
end
section
variable {w w':World} {F:Fp} {ge n K:Nat} {c:Cf} {s:Sd} {r:Rc}
theorem Ic {F:Nat→Prop} {g:Nat} {st:Sd} (h:xL w F g c st) (ho:dZ c st K):Calls Tryz.prog 60 #[.pointer (some ⟨g,0,none⟩)] w fun e w'=>(∃A cc vs,e= .returned (.slice A st.queue.length cc)∧Dq w' w.heap.size (fun _=>False) (.slice A st.queue.length cc) st.queue vs)∧Below w.heap.size w w':=by
 obtain ⟨D,vq,vs,vo,os,h1⟩:=h;exact EP h1 ho.cf.timer.1 ho.bnd.held (Nat.le_trans (qM fun s hs=>(ho.bnd.KB s hs).1) ho.bnd.held)
theorem uY (h:kY w F ge c s r n) (ho:dZ c s K):Calls Tryz.prog 26 #[.pointer (some ⟨ge,0,none⟩)] w fun e w'=>(∃A cc vs,e= .returned (.slice A s.queue.length cc)∧Dq w' w.heap.size (fun _=>False) (.slice A s.queue.length cc) s.queue vs)∧Below w.heap.size w w':=by
 obtain ⟨gs,gr,Fs,Fr,h1,h2,_⟩:=h;have x0:=h1.cell 0;simp at x0;have HN:=ah (jv h1);have HS:=ah (Ic h2 ho);clear h1 h2 ho;go_enter Tryz.func26,Tryz.ntmps26;go_wp2_with (first
  |(go_at_call 48;refine HN.out.mono ?_;rintro e1 w1 ⟨rfl,rfl⟩)
  |(go_at_call 60;refine HS.out.mono ?_;rintro e2 w2 ⟨⟨A,cc,vs,rfl,hg⟩,hb2⟩))
 go_ret;exact ⟨⟨_,_,_,rfl,hg⟩,hb2⟩
end
end
section
open Go.RowKit Go.Shelf
attribute [local go_sem] Oper.semAt_some
structure qF (w:World) (g u a:Nat):Prop where
 ent:au w g 109 #[.int .i64 3,.iface 119 (.pointer (some ⟨u,0,none⟩)),.pointer (some ⟨a,0,none⟩)]
 un:au w u 122 #[.pointer (some ⟨a,0,none⟩)]
theorem qF.below {w w':World} {g u a:Nat} (h:qF w g u a) (hb:Below w.heap.size w w'):qF w' g u a:=⟨h.ent.below hb h.ent.lt,h.un.below hb h.un.lt⟩
theorem qF.stay {w w':World} {g u a:Nat} (h:qF w g u a) (h1:w'.heap[g]? =w.heap[g]?) (h2:w'.heap[u]? =w.heap[u]?):qF w' g u a:=⟨h1.trans h.ent,h2.trans h.un⟩
theorem AA (a:Addr) (w:World):(method 439 119 (.pointer (some a)) "userplane/rlc.buffered").run Tryz.prog w= .ok (240,.pointer (some a)) w:=by kernel_rfl
theorem Ie (a:Addr) (w:World):(method 439 119 (.pointer (some a)) "userplane/rlc.grant").run Tryz.prog w= .ok (242,.pointer (some a)) w:=by kernel_rfl
theorem BR (a:Addr) (w:World):(method 439 119 (.pointer (some a)) "userplane/rlc.receive").run Tryz.prog w= .ok (243,.pointer (some a)) w:=by kernel_rfl
theorem EQ (a:Addr) (w:World):(method 439 119 (.pointer (some a)) "userplane/rlc.submit").run Tryz.prog w= .ok (244,.pointer (some a)) w:=by kernel_rfl
theorem Kb (a:Addr) (w:World):(method 439 119 (.pointer (some a)) "userplane/rlc.tick").run Tryz.prog w= .ok (245,.pointer (some a)) w:=by kernel_rfl
section
variable {w:World} {g u a:Nat}
theorem Kc (h:qF w g u a) (A:Option Addr) (n c:Nat) (Q:Ending→World→Prop) (hQ:∀e w',Q e w'→∃k:Int,e= .returned (.int .i64 k))
 (hc:Calls Tryz.prog 21 #[.pointer (some ⟨a,0,none⟩),.slice A n c] w Q):
 Calls Tryz.prog 32 #[.pointer (some ⟨g,0,none⟩),.slice A n c] w Q:=by
 have MK:=ah (hc.mono fun e w' hq=>(⟨hQ e w' hq,hq⟩:(∃k:Int,e= .returned (.int .i64 k))∧Q e w'));have hin:Calls Tryz.prog 244 #[.pointer (some ⟨u,0,none⟩),.slice A n c] w Q:=by
  have y0:=h.un.cell 0;simp at y0;clear hc h hQ;go_enter Tryz.func244,Tryz.ntmps244;go_wp2_with (go_at_call 21;refine MK.out.mono ?_;rintro e1 w1 ⟨⟨x,rfl⟩,hq⟩);exact hq
 have hno:=Tm.jD g 3 _ _ w h.ent;have x1:=h.ent.cell 1;simp at x1;have HN:=ah hno;have HC:=ah (hin.mono fun e w' hq=>(⟨hQ e w' hq,hq⟩:(∃k:Int,e= .returned (.int .i64 k))∧Q e w'));have hme:=EQ ⟨u,0,none⟩;clear hno hc hin h hQ MK;go_enter Tryz.func32,Tryz.ntmps32;go_wp2_with (first|(go_at_call 66;refine HN.out.mono ?_;rintro e1 w1 ⟨rfl,rfl⟩)|(go_at_call 244;refine HC.out.mono ?_;rintro e1 w1 ⟨⟨x,rfl⟩,hq⟩));exact hq
theorem Nj (h:qF w g u a) (now n:Int) (Q:Ending→World→Prop) (hQ:∀e w',Q e w'→∃b x,e= .returned (.tuple #[b,x]))
 (hc:Calls Tryz.prog 18 #[.pointer (some ⟨a,0,none⟩),.int .i64 now,.int .i64 n] w Q):
 Calls Tryz.prog 33 #[.pointer (some ⟨g,0,none⟩),.int .i64 now,.int .i64 n] w Q:=by
 have MK:=ah (hc.mono fun e w' hq=>(⟨hQ e w' hq,hq⟩:(∃b x,e= .returned (.tuple #[b,x]))∧Q e w'));have hin:Calls Tryz.prog 242 #[.pointer (some ⟨u,0,none⟩),.int .i64 now,.int .i64 n] w Q:=by
  have y0:=h.un.cell 0;simp at y0;clear hc h hQ;go_enter Tryz.func242,Tryz.ntmps242;go_wp2_with (go_at_call 18;refine MK.out.mono ?_;rintro e1 w1 ⟨⟨b,x,rfl⟩,hq⟩);exact hq
 have hno:=Tm.jD g 3 _ _ w h.ent;have x1:=h.ent.cell 1;simp at x1;have HN:=ah hno;have HC:=ah (hin.mono fun e w' hq=>(⟨hQ e w' hq,hq⟩:(∃b x,e= .returned (.tuple #[b,x]))∧Q e w'));have hme:=Ie ⟨u,0,none⟩;clear hno hc hin h hQ MK;go_enter Tryz.func33,Tryz.ntmps33;go_wp2_with (first|(go_at_call 66;refine HN.out.mono ?_;rintro e1 w1 ⟨rfl,rfl⟩)|(go_at_call 242;refine HC.out.mono ?_;rintro e1 w1 ⟨⟨b,x,rfl⟩,hq⟩));exact hq
theorem Ig (h:qF w g u a) (now:Int) (A:Option Addr) (n c:Nat) (Q:Ending→World→Prop) (hQ:∀e w',Q e w'→∃b x,e= .returned (.tuple #[b,x]))
 (hc:Calls Tryz.prog 19 #[.pointer (some ⟨a,0,none⟩),.int .i64 now,.slice A n c] w Q):
 Calls Tryz.prog 35 #[.pointer (some ⟨g,0,none⟩),.int .i64 now,.slice A n c] w Q:=by
 have MK:=ah (hc.mono fun e w' hq=>(⟨hQ e w' hq,hq⟩:(∃b x,e= .returned (.tuple #[b,x]))∧Q e w'));have hin:Calls Tryz.prog 243 #[.pointer (some ⟨u,0,none⟩),.int .i64 now,.slice A n c] w Q:=by
  have y0:=h.un.cell 0;simp at y0;clear hc h hQ;go_enter Tryz.func243,Tryz.ntmps243;go_wp2_with (go_at_call 19;refine MK.out.mono ?_;rintro e1 w1 ⟨⟨b,x,rfl⟩,hq⟩);exact hq
 have hno:=Tm.jD g 3 _ _ w h.ent;have x1:=h.ent.cell 1;simp at x1;have HN:=ah hno;have HC:=ah (hin.mono fun e w' hq=>(⟨hQ e w' hq,hq⟩:(∃b x,e= .returned (.tuple #[b,x]))∧Q e w'));have hme:=BR ⟨u,0,none⟩;clear hno hc hin h hQ MK;go_enter Tryz.func35,Tryz.ntmps35;go_wp2_with (first|(go_at_call 66;refine HN.out.mono ?_;rintro e1 w1 ⟨rfl,rfl⟩)|(go_at_call 243;refine HC.out.mono ?_;rintro e1 w1 ⟨⟨b,x,rfl⟩,hq⟩));exact hq
theorem ER (h:qF w g u a) (Q:Ending→World→Prop) (hQ:∀e w',Q e w'→∃k:Int,e= .returned (.int .i64 k))
 (hc:Calls Tryz.prog 23 #[.pointer (some ⟨a,0,none⟩)] w Q):
 Calls Tryz.prog 41 #[.pointer (some ⟨g,0,none⟩)] w Q:=by
 have MK:=ah (hc.mono fun e w' hq=>(⟨hQ e w' hq,hq⟩:(∃k:Int,e= .returned (.int .i64 k))∧Q e w'));have hin:Calls Tryz.prog 240 #[.pointer (some ⟨u,0,none⟩)] w Q:=by
  have y0:=h.un.cell 0;simp at y0;clear hc h hQ;go_enter Tryz.func240,Tryz.ntmps240;go_wp2_with (go_at_call 23;refine MK.out.mono ?_;rintro e1 w1 ⟨⟨x,rfl⟩,hq⟩);exact hq
 have hno:=Tm.jD g 3 _ _ w h.ent;have x1:=h.ent.cell 1;simp at x1;have HN:=ah hno;have HC:=ah (hin.mono fun e w' hq=>(⟨hQ e w' hq,hq⟩:(∃k:Int,e= .returned (.int .i64 k))∧Q e w'));have hme:=AA ⟨u,0,none⟩;clear hno hc hin h hQ MK;go_enter Tryz.func41,Tryz.ntmps41;go_wp2_with (first|(go_at_call 66;refine HN.out.mono ?_;rintro e1 w1 ⟨rfl,rfl⟩)|(go_at_call 240;refine HC.out.mono ?_;rintro e1 w1 ⟨⟨x,rfl⟩,hq⟩));exact hq
theorem oK (h:qF w g u a):Calls Tryz.prog 67 #[.pointer (some ⟨g,0,none⟩)] w fun e w'=>e= .returned (.pointer (some ⟨a,0,none⟩))∧w=w':=by
 have hno:=Tm.jD g 3 _ _ w h.ent;have x2:=h.ent.cell 2;simp at x2;have HN:=ah hno;clear hno h;go_enter Tryz.func67,Tryz.ntmps67;go_wp2_with (go_at_call 66;refine HN.out.mono ?_;rintro e1 w1 ⟨rfl,rfl⟩);go_ret;exact ⟨rfl,rfl⟩
theorem Ih (h:qF w g u a) (now:Int) (Q:Ending→World→Prop) (hQ:∀e w',Q e w'→∃k:Bool,e= .returned (.bool k))
 (hc:Calls Tryz.prog 24 #[.pointer (some ⟨a,0,none⟩),.int .i64 now] w Q):
 Calls Tryz.prog 40 #[.pointer (some ⟨g,0,none⟩),.int .i64 now] w Q:=by
 have HC:=ah (hc.mono fun e w' hq=>(⟨hQ e w' hq,hq⟩:(∃k:Bool,e= .returned (.bool k))∧Q e w'));have HN:=ah (oK h);clear hc hQ h;go_enter Tryz.func40,Tryz.ntmps40;go_wp2_with (first|(go_at_call 67;refine HN.out.mono ?_;rintro e1 w1 ⟨rfl,rfl⟩)|(go_at_call 24;refine HC.out.mono ?_;rintro e1 w1 ⟨⟨x,rfl⟩,hq⟩));exact hq
theorem BS (h:qF w g u a) (Q:Ending→World→Prop) (hQ:∀e w',Q e w'→∃k:Int,e= .returned (.int .i64 k))
 (hc:Calls Tryz.prog 25 #[.pointer (some ⟨a,0,none⟩)] w Q):
 Calls Tryz.prog 42 #[.pointer (some ⟨g,0,none⟩)] w Q:=by
 have HC:=ah (hc.mono fun e w' hq=>(⟨hQ e w' hq,hq⟩:(∃k:Int,e= .returned (.int .i64 k))∧Q e w'));have HN:=ah (oK h);clear hc hQ h;go_enter Tryz.func42,Tryz.ntmps42;go_wp2_with (first|(go_at_call 67;refine HN.out.mono ?_;rintro e1 w1 ⟨rfl,rfl⟩)|(go_at_call 25;refine HC.out.mono ?_;rintro e1 w1 ⟨⟨x,rfl⟩,hq⟩));exact hq
theorem Ke (h:qF w g u a) (Q:Ending→World→Prop) (hQ:∀e w',Q e w'→∃(A:Option Addr) (n c:Nat),e= .returned (.slice A n c))
 (hc:Calls Tryz.prog 26 #[.pointer (some ⟨a,0,none⟩)] w Q):
 Calls Tryz.prog 43 #[.pointer (some ⟨g,0,none⟩)] w Q:=by
 have HC:=ah (hc.mono fun e w' hq=>(⟨hQ e w' hq,hq⟩:(∃(A:Option Addr) (n c:Nat),e= .returned (.slice A n c))∧Q e w'));have HN:=ah (oK h);clear hc hQ h;go_enter Tryz.func43,Tryz.ntmps43;go_wp2_with (first|(go_at_call 67;refine HN.out.mono ?_;rintro e1 w1 ⟨rfl,rfl⟩)|(go_at_call 26;refine HC.out.mono ?_;rintro e1 w1 ⟨⟨A,n,c,rfl⟩,hq⟩));exact hq
theorem Kg (h:qF w g u a) (Q:Ending→World→Prop) (hQ:∀e w',Q e w'→∃k:Bool,e= .returned (.bool k))
 (hc:Calls Tryz.prog 16 #[.pointer (some ⟨a,0,none⟩)] w Q):
 Calls Tryz.prog 34 #[.pointer (some ⟨g,0,none⟩)] w Q:=by
 have HC:=ah (hc.mono fun e w' hq=>(⟨hQ e w' hq,hq⟩:(∃k:Bool,e= .returned (.bool k))∧Q e w'));have HN:=ah (oK h);clear hc hQ h;go_enter Tryz.func34,Tryz.ntmps34;go_wp2_with (first|(go_at_call 67;refine HN.out.mono ?_;rintro e1 w1 ⟨rfl,rfl⟩)|(go_at_call 16;refine HC.out.mono ?_;rintro e1 w1 ⟨⟨x,rfl⟩,hq⟩));exact hq
end
end
section
open Go.RowKit Go.Shelf
attribute [local go_sem] Oper.semAt_some
structure Kh (w:World) (c:Cf) (k:Int) (g u a:Nat) (F:Fp) (w':World):Prop where
 ent:au w' g 109 #[.int .i64 k,.iface 119 (.pointer (some ⟨u,0,none⟩)),.pointer (some ⟨a,0,none⟩)]
 un:au w' u 122 #[.pointer (some ⟨a,0,none⟩)]
 en:kY w' F a c dY lM 0
 ge:∀k,F k→w.heap.size≤k∧k≠g∧k≠u
 gg:w.heap.size≤g
 gu:w.heap.size≤u
def agX (w:World) (a0 a1 a2 a3 a4 a5 a6:Int) (e:Ending) (w':World):Prop:=
 Below w.heap.size w w'∧∃g,(e= .returned (.tuple #[.pointer (some ⟨g,0,none⟩),.bool true])∧dF a0 a1 a2 a3 a4 a5 a6=true∧∃u a F,Kh w (nL a0 a1 a2 a3 a4 a5 a6) 0 g u a F w')∨(e= .returned (.tuple #[.pointer (some ⟨g,0,none⟩),.bool false])∧dF a0 a1 a2 a3 a4 a5 a6=false)
set_option maxRecDepth 100000 in
set_option maxHeartbeats 1000000 in
theorem agY (m c d a0 a1 a2 a3 a4 a5 a6:Int) (w:World):Calls Tryz.prog 112 #[.agg (Tm.cfg m c d a0 a1 a2 a3 a4 a5 a6)] w (agX w a0 a1 a2 a3 a4 a5 a6):=by
 unfold Tm.cfg;have b0:=au.new w 74 #[.int .i64 m,.int .i64 c,.int .i64 d,.int .i64 a0,.int .i64 a1,.int .i64 a2,.int .i64 a3,.int .i64 a4,.int .i64 a5,.int .i64 a6];have hw0:=(Below.refl w.heap.size w).alloc (aN) (.cells #[.int .i64 m,.int .i64 c,.int .i64 d,.int .i64 a0,.int .i64 a1,.int .i64 a2,.int .i64 a3,.int .i64 a4,.int .i64 a5,.int .i64 a6] 74);obtain ⟨_,_,_,x3,x4,x5,x6,x7,x8,x9⟩:=b0.VX;have hN0:=Dm a0 a1 a2 a3 a4 a5 a6;unfold vZ at hN0;have HN:=ah hN0;have HW:=ah hw0;clear b0 hw0 hN0;go_enter Tryz.func112,Tryz.ntmps112;go_wp2_with fail;generalize w.alloc (.cells #[.int .i64 m,.int .i64 c,.int .i64 d,.int .i64 a0,.int .i64 a1,.int .i64 a2,.int .i64 a3,.int .i64 a4,.int .i64 a5,.int .i64 a6] 74)=w0 at*;clear x3 x4 x5 x6 x7 x8 x9;refine (HN.out w0).mono ?_;rintro e1 w1 ⟨hb1,⟨hr,a,F,rfl,hE,hF⟩|⟨hr,rfl⟩⟩
 ·have hw1:=HW.out.trans (hb1.mono HW.out.size);have hz:=HW.out.size;have hz1:=hb1.size;have HW1:=ah hw1;have HE:=ah hE;have HF:=ah hF;have HR:=ah hr;clear hw1 hE hF hr hb1 HN HW;go_wp2_with fail
  go_ret2
  have hb3:Below w1.heap.size w1 ((w1.alloc (.cells #[.pointer (some ⟨a,0,none⟩)] 122)).alloc (.cells #[.int .i64 0,.iface 119 (.pointer (some ⟨w1.heap.size,0,none⟩)),.pointer (some ⟨a,0,none⟩)] 109)):=((Below.refl w1.heap.size w1).alloc (aN) _).alloc (by simp) _;refine ⟨HW1.out.trans (hb3.mono HW1.out.size),w1.heap.size+1,.inl ⟨rfl,HR.out,w1.heap.size,a,F,⟨?_,?_,HE.out.below hb3,fun k hk=> ?_,by omega,by omega⟩⟩⟩
  ·have b:=au.new (w1.alloc (.cells #[.pointer (some ⟨a,0,none⟩)] 122)) 109 #[.int .i64 0,.iface 119 (.pointer (some ⟨w1.heap.size,0,none⟩)),.pointer (some ⟨a,0,none⟩)];simp only[World.size_alloc] at b;exact b
  ·exact (au.new w1 122 #[.pointer (some ⟨a,0,none⟩)]).alloc _
  ·have h1:=HF.out k hk;have h2:=HE.out.lt k hk;exact ⟨by omega,by omega,by omega⟩
 ·have hw1:=HW.out.trans (hb1.mono HW.out.size);have HW1:=ah hw1;have HR:=ah hr;clear hw1 hr hb1 HN HW;go_wp2_with fail
  go_ret2
  exact ⟨((HW1.out.alloc HW1.out.size _).alloc (by have:=HW1.out.size;simp;omega) _),w1.heap.size+1,.inr ⟨rfl,HR.out⟩⟩
end
section
open Go.RowKit Go.Shelf
attribute [local go_sem] Oper.semAt_some
theorem Kh.put {w w':World} {c:Cf} {k:Int} {g u a:Nat} {F:Fp} (h:Kh w c k g u a F w') (m:Int):Kh w c m g u a F (w'.setCell ⟨g,0,none⟩ (.int .i64 m)):=by
 have hne:u≠g:=by
  rintro rfl;have h1:=h.ent;have h2:=h.un;unfold au at h1 h2;rw[h1] at h2;cases h2
 exact ⟨by simpa using h.ent.av 0 (.int .i64 m),h.un.far (p:=⟨g,0,none⟩) hne _,h.en.stay fun k hk=>Below.heap_setCell w' ⟨g,0,none⟩ _ k (h.ge k hk).2.1,h.ge,h.gg,h.gu⟩
def acE (w:World) (a0 a1 a2 a3 a4 a5 a6:Int) (e:Ending) (w':World):Prop:=
 Below w.heap.size w w'∧((∃g u a F,e= .returned (.tuple #[.pointer (some ⟨g,0,none⟩),.int .i64 0])∧dF a0 a1 a2 a3 a4 a5 a6=true∧Kh w (nL a0 a1 a2 a3 a4 a5 a6) 3 g u a F w')∨(e= .returned (.tuple #[.pointer none,.int .i64 2])∧dF a0 a1 a2 a3 a4 a5 a6=false))
set_option maxRecDepth 100000 in
set_option maxHeartbeats 1000000 in
theorem acF (c d a0 a1 a2 a3 a4 a5 a6:Int) (w:World):Calls Tryz.prog 31 #[.agg (Tm.cfg 3 c d a0 a1 a2 a3 a4 a5 a6)] w (acE w a0 a1 a2 a3 a4 a5 a6):=by
 have hm:=fun W=>agY 3 c d a0 a1 a2 a3 a4 a5 a6 W
 have hget:=fun W:World=>Tm.Kz (W.alloc (.map Tm.Nw 3)).drew W.heap.size 3 (jC W _) 112 (.inr (.inr ⟨rfl,rfl⟩))
 unfold Tm.cfg at*;have HM:=ah hm;have b0:=au.new w 74 #[.int .i64 3,.int .i64 c,.int .i64 d,.int .i64 a0,.int .i64 a1,.int .i64 a2,.int .i64 a3,.int .i64 a4,.int .i64 a5,.int .i64 a6];have x0:=b0.VX.1;have hw0:=(Below.refl w.heap.size w).alloc (aN) (.cells #[.int .i64 3,.int .i64 c,.int .i64 d,.int .i64 a0,.int .i64 a1,.int .i64 a2,.int .i64 a3,.int .i64 a4,.int .i64 a5,.int .i64 a6] 74);have HB:=ah b0;have HW:=ah hw0;clear hm b0 hw0;go_enter Tryz.func31,Tryz.ntmps31;go_wp2_with fail;generalize w.alloc (.cells #[.int .i64 3,.int .i64 c,.int .i64 d,.int .i64 a0,.int .i64 a1,.int .i64 a2,.int .i64 a3,.int .i64 a4,.int .i64 a5,.int .i64 a6] 74)=w0 at*;have hbl:w.heap.size<w0.drew.heap.size:=HB.out.lt
 go_region_held3 (fun w'=>w'.cell? ⟨w.heap.size,0,none⟩=some (.int .i64 3))
  (first|(exact (World.cell?_alloc_lt _ _ ⟨w.heap.size,0,none⟩ hbl).trans x0)|go_keep)
  ((go_at_call 65;refine (Tm.yO _).mono ?_;rintro e1 w1 ⟨rfl,rfl⟩))
 clear hget;have b1:=(HB.out.alloc (.map Tm.Nw 3)).drew;obtain ⟨y0,y1,y2,y3,y4,y5,y6,y7,y8,y9⟩:=b1.VX;have hW1:=(HW.out.alloc HW.out.size (.map Tm.Nw 3)).drew;have hl1:w.heap.size<w0.heap.size:=HB.out.lt;generalize (w0.alloc (.map Tm.Nw 3)).drew=w1 at*;have hz:=hW1.size;go_wp2_with fail;refine (HM.out _).mono ?_;rintro e2 w2 ⟨hb2,g,⟨rfl,ic,u,s,F,hN⟩|⟨rfl,hno⟩⟩
 ·have hbw:=hW1.trans (hb2.mono hz);have b2:=b1.below hb2 b1.lt;have hm0:=b2.VX.1;have g0:=hN.ent.cell 0;simp at g0;have f0:=hN.ent.frozen 0;have hgg:=hN.gg;have HN:=ah hN;have Bg:=ah hbw;have HIC:=ah ic;clear hN HM y0 y1 y2 y3 y4 y5 y6 y7 y8 y9 b1 b2 hb2 hbw ic;go_wp2
  go_ret2
  have hp:=HN.out.put 3;exact ⟨Bg.out.setCell (p:=⟨g,0,none⟩) (Nat.le_trans hz hgg) _,.inl ⟨g,u,s,F,rfl,HIC.out,⟨hp.ent,hp.un,hp.en,fun k hk=>⟨Nat.le_trans hz (hp.ge k hk).1,(hp.ge k hk).2⟩,Nat.le_trans hz hp.gg,Nat.le_trans hz hp.gu⟩⟩⟩
 ·have hbw:=hW1.trans (hb2.mono hz);have Bg:=ah hbw;have J2:=ah hno;clear HM y0 y1 y2 y3 y4 y5 y6 y7 y8 y9 b1 hb2 hbw hno;go_wp2
  go_ret2
  exact ⟨Bg.out,.inr ⟨rfl,J2.out⟩⟩
end
end Go.Proofs.YtbhiklnljiehiaaGreat
