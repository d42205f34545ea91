/- amsend: again. amsend: a new PDU is appended to the outstanding ones. -/
import Derived.Test.YtbhiklnljiehiaaGreatM0ah
import Derived.Test.YtbhiklnljiehiaaGreatM0am
import Derived.Test.YtbhiklnljiehiaaGreatM0ao
import Derived.Test.YtbhiklnljiehiaaGreatM0ap
import Derived.Test.YtbhiklnljiehiaaGreatM0ar
import Derived.Deep.CutBlock
namespace Go.Proofs.YtbhiklnljiehiaaGreat
section
open Go.RowKit Go.Shelf
attribute [local go_sem] Oper.semAt_some
def Qx:Option Pu→List UInt8
 |none=> []
 |some p=>wo p.sn p.poll p.seg p.last p.off p.s p.e p.ps
theorem og {x:Ou} (h:Ei x):gK (x.sn:Nat) false false 0 x.ps=true:=by
 have h1:=h.sn;have h2:=(nN x.ps).2 h.ps;simp[gK,mg,h2];omega
section
variable {D F:Nat→Prop} {g:Nat} {c:Cf} {st:Sd} {vq vo:Value} {vs os:List Value} {w:World}
theorem dM.two {ar:Addr} {n cr:Nat} {r:Nat × Nat} {t:List (Nat × Nat)} (h:dM w (some ar) n cr (r::t)):w.cell? ar=some (.int .i64 (r.1:Nat))∧w.cell? ⟨ar.block,ar.off+1,none⟩=some (.int .i64 (r.2:Nat)):=by
 have hl:=h.len;simp at hl;obtain ⟨zC,e,hb,hc⟩:=h.at_ (by omega);cases e;have:=hc 0 r rfl;simpa[Addr.add] using this
theorem gI.Ip {p:Nat} {x:Ou} {Ap Ar:Option Addr} {cp cr:Nat} {vp:List Value} {w':World} (h:gI w D F p x Ap cp vp Ar cr) (hF:∀k,F k→k<w.heap.size) (hk:Kept (fun k _=>D k) w w'):jg w' w'.heap.size Ap x.ps.length cp vp x.ps:=by
 have nd:∀{A:Option Addr},Cs F D A→∀ad,A=some ad→w'.heap[ad.block]? =w.heap[ad.block]? :=fun hi ad e=>by
  have hlt:=hF _ (hi ad e).1;have h1:w.heap[ad.block]? =some w.heap[ad.block]:=Array.getElem?_eq_getElem hlt;rw[h1];exact hk.same _ _ h1 (hi ad e).2
 exact h.ps.stay (nd h.pf) (fun i v ad hv e=>nd (h.pe i v hv) ad e)
theorem aW.Ip {base:Nat} {A:Option Addr} {cc:Nat} {ps:List (List UInt8)} (h:aW w base (.slice A ps.length cc) ps) (hD:∀k,D k→k<base):∃vl,∀w',Kept (fun k _=>D k) w w'→jg w' w'.heap.size A ps.length cc vl ps:=by
 obtain ⟨vl,h1,h2⟩:=h;refine ⟨vl,fun w' hk=>⟨ed (jl h1 hk fun k o hr hb hd=> ?_),rfl,fun i q hi=> ?_⟩⟩
 ·have:=(h1.lt k hb).1;have:=hD k hd;omega
 ·obtain ⟨A',c',e,ho⟩:=h2 i q hi;exact ⟨A',c',e,ed (jl ho hk fun k o hr hb hd=>by
   have:=(ho.lt k hb).1;have:=hD k hd;omega)⟩
def oh (w0:World) (x:Ou) (fr j:Nat) (wr:World):Prop:=
 Below w0.heap.size w0 wr∧((j=fr∧au wr w0.heap.size 148 (bq 0 false false false 0 false false none 0 0))∨
  (fr<j∧∃A cc,au wr w0.heap.size 148 (bq (x.sn:Nat) false true (decide (j=aF x)) (fr:Nat) (bU x.ps x.s 0 fr x.ps.length) (dU x.ps x.e 0 j x.ps.length) A (aP x.ps 0 fr j x.ps.length).length cc)∧
   aW wr w0.heap.size (.slice A (aP x.ps 0 fr j x.ps.length).length cc) (aP x.ps 0 fr j x.ps.length)))
theorem aW.za {base:Nat} {v:Value} {ps:List (List UInt8)} {w':World} (h:aW w base v ps) (hb:Below w.heap.size w w'):aW w' base v ps:=by
 obtain ⟨vl,h1,h2⟩:=h;exact ⟨vl,own_below h1 hb (Nat.le_refl _),fun i q hi=>let ⟨A,c,e,ho⟩:=h2 i q hi;⟨A,c,e,own_below ho hb (Nat.le_refl _)⟩⟩
theorem oh.below {w0 wr w':World} {x:Ou} {fr j:Nat} (h:oh w0 x fr j wr) (hb:Below wr.heap.size wr w'):oh w0 x fr j w':=by
 obtain ⟨h1,h2⟩:=h;refine ⟨h1.trans (hb.mono h1.size),?_⟩;rcases h2 with ⟨e,k⟩|⟨e,A,cc,k1,k2⟩
 ·exact .inl ⟨e,k.below hb k.lt⟩
 ·exact .inr ⟨e,A,cc,k1.below hb k1.lt,k2.za hb⟩
theorem oh.put {w0 wr w3:World} {x:Ou} {fr j m:Nat} {A:Option Addr} {cc:Nat} (h:oh w0 x fr j wr) (hb:Below wr.heap.size wr w3) (hm:fr<m)
 (hp:aW w3 w0.heap.size (.slice A (aP x.ps 0 fr m x.ps.length).length cc) (aP x.ps 0 fr m x.ps.length)):
 oh w0 x fr m ((((((((w3.setCell ⟨w0.heap.size,0,none⟩ (.int .i64 (x.sn:Nat))).setCell ⟨w0.heap.size,1,none⟩ (.bool false)).setCell ⟨w0.heap.size,2,none⟩ (.bool true)).setCell ⟨w0.heap.size,3,none⟩ (.bool (decide (m=aF x)))).setCell ⟨w0.heap.size,4,none⟩ (.int .i64 (fr:Nat))).setCell ⟨w0.heap.size,5,none⟩ (.bool (bU x.ps x.s 0 fr x.ps.length))).setCell ⟨w0.heap.size,6,none⟩ (.bool (dU x.ps x.e 0 m x.ps.length))).setCell ⟨w0.heap.size,7,none⟩ (.slice A (aP x.ps 0 fr m x.ps.length).length cc)):=by
 have h3:=h.below hb;obtain ⟨u0,u1,u2,u3,u4,u5,u6,u7,hbk⟩:∃u0 u1 u2 u3 u4 u5 u6 u7,au w3 w0.heap.size 148 #[u0,u1,u2,u3,u4,u5,u6,u7]:=by
  rcases h3.2 with ⟨e,k⟩|⟨e,A,cc,k1,k2⟩
  ·exact ⟨_,_,_,_,_,_,_,_,k⟩
  ·exact ⟨_,_,_,_,_,_,_,_,k1⟩
 have k0:=hp.store (i:=0) hbk (by decide) (by decide) (.int .i64 (x.sn:Nat));have k1:=k0.store (i:=1) (hbk.av 0 _) (by decide) (by decide) (.bool false);have k2:=k1.store (i:=2) ((hbk.av 0 _).av 1 _) (by decide) (by decide) (.bool true);have k3:=k2.store (i:=3) (((hbk.av 0 _).av 1 _).av 2 _) (by decide) (by decide) (.bool (decide (m=aF x)));have k4:=k3.store (i:=4) ((((hbk.av 0 _).av 1 _).av 2 _).av 3 _) (by decide) (by decide) (.int .i64 (fr:Nat));have k5:=k4.store (i:=5) (((((hbk.av 0 _).av 1 _).av 2 _).av 3 _).av 4 _) (by decide) (by decide) (.bool (bU x.ps x.s 0 fr x.ps.length));have k6:=k5.store (i:=6) ((((((hbk.av 0 _).av 1 _).av 2 _).av 3 _).av 4 _).av 5 _) (by decide) (by decide) (.bool (dU x.ps x.e 0 m x.ps.length));have k7:=k6.store (i:=7) (((((((hbk.av 0 _).av 1 _).av 2 _).av 3 _).av 4 _).av 5 _).av 6 _) (by decide) (by decide) (.slice A (aP x.ps 0 fr m x.ps.length).length cc);exact ⟨nU h3.1 (Nat.le_refl _) _ _ _ _ _ _ _ _,.inr ⟨hm,A,cc,hbk.Mf _ _ _ _ _ _ _ _,k7⟩⟩
theorem lY {w0 wc w5:World} {i p bb base:Nat} {x:Ou} {Ap Ar Ac:Option Addr} {cp cr cc:Nat} {vp:List Value} {l:List (Nat × Nat)} {v5:Value} {sn fr:Nat} {la s e:Bool} {CP:List (List UInt8)}
 (hA:dS wc D F g c st vq vs vo os) (hk:Kept (fun k _=>D k) w0 wc) (hx:st.out[i]? =some x) (hp:os[i]? =some (.pointer (some ⟨p,0,none⟩))) (hO:gI wc D F p x Ap cp vp Ar cr)
 (hbb:au wc bb 148 (bq (sn:Nat) false true la (fr:Nat) s e Ac CP.length cc)) (hpo:aW wc bb (.slice Ac CP.length cc) CP)
 (hb5:Below wc.heap.size wc w5) (hv5:w5.ownsRow base 39 2 v5 l.length (mZ l)) (hbase:wc.heap.size≤base):
 ∃F' A5 c5,v5= .slice A5 l.length c5∧dS (w5.setCell ⟨p,10,none⟩ (.slice A5 l.length c5)) D F' g c (jT st i x l) vq vs vo os∧bR w0 F F'∧Kept (fun k _=>D k) w0 (w5.setCell ⟨p,10,none⟩ (.slice A5 l.length c5))∧
  au (w5.setCell ⟨p,10,none⟩ (.slice A5 l.length c5)) bb 148 (bq (sn:Nat) false true la (fr:Nat) s e Ac CP.length cc)∧aW (w5.setCell ⟨p,10,none⟩ (.slice A5 l.length c5)) bb (.slice Ac CP.length cc) CP:=by
 obtain ⟨A5,c5,rfl,hsp,J5⟩:=dM.cK hv5;have hz:=hk.size;have h5:=(hA.below hb5).EO (F':=fun k=>F k∨∃ad,A5=some ad∧k=ad.block) (fun _=> .inl) (fun k hk=>by
  rcases hk with hk|⟨ad,e,rfl⟩
  ·exact (hA.below hb5).lt k hk
  ·exact (J5 ad e).2)
 have DY:=(hO.stay (w':=w5) fun k hk=>hb5.block k (hA.lt k hk)).EO (F':=fun k=>F k∨∃ad,A5=some ad∧k=ad.block) (fun _=> .inl);obtain ⟨h6,Gj⟩:=h5.Ht hx hp DY 10 (.slice A5 l.length c5) (z:= {x with pend:=l}) (Jd:=A5) (Kb:=c5) rfl rfl hsp (fun ad e=>⟨.inr ⟨ad,e,rfl⟩,fun hd=>by
  have h1:=(J5 ad e).1;have h2:=hA.lt _ (hA.sub _ hd);omega⟩)
 have hk5:Kept (fun k _=>D k) w0 w5:=hk.trans ((Kept.of_below hb5).fA fun k o ho hm=>by have:=lt_of_heap ho;omega);refine ⟨_,A5,c5,rfl,h6,fun k hk'=> ?_,hk5.setCell (p:=⟨p,10,none⟩) (fun _ _=>hO.d) _,(hbb.below hb5 hbb.lt).far (p:=⟨p,10,none⟩) (hbb.off hO.blk (by decide)) _,(hpo.za hb5).store DY.blk (by decide) (by decide) _⟩;rcases hk' with hk'|⟨ad,e,rfl⟩
 ·exact .inl hk'
 ·have:=(J5 ad e).1;exact .inr (by omega)
theorem dM.Se {ar:Addr} {n cr:Nat} {r:Nat × Nat} {l:List (Nat × Nat)} (h:dM w (some ar) (n+1) cr (r::l)) (hc:¬cr=1):dM w (some ⟨ar.block,ar.off+2,none⟩) n (cr-1) l:=by
 have:=h.tail;rw[if_neg hc] at this;simpa[Addr.add] using this
set_option maxRecDepth 100000 in
set_option maxHeartbeats 4000000 in
theorem Iq (h:dS w D F g c st vq vs vo os) {K:Nat} (hB:jk st K) (hw:st.out.length≤512) (hf:st.first<1024) {i p:Nat} {x:Ou} {Ap Ar:Option Addr} {cp cr:Nat} {vp:List Value} (hx:st.out[i]? =some x) (hp:os[i]? =some (.pointer (some ⟨p,0,none⟩))) (hO:gI w D F p x Ap cp vp Ar cr) (hpe:x.pend≠ [])
 (n:Int) (hn:0≤n) (hn2:n≤9223372036854775807):
 Calls Tryz.prog 85 #[.pointer (some ⟨g,0,none⟩),.pointer (some ⟨p,0,none⟩),.int .i64 n] w (Dp w D F g c (gX c n st i x).1 (Qx (gX c n st i x).2)):=by
 obtain ⟨⟨fr,e0⟩,rest,Lg⟩:=List.exists_cons_of_ne_nil hpe;have hok:=hB.ou x (List.mem_of_getElem? hx);have hsz:=jc hok;have hr:=hok.pr (fr,e0) (by rw[Lg];simp);have hpl:=hok.pl;dsimp only at hr;obtain ⟨R,hR⟩:∃R,gX c n st i x=R:=⟨_,rfl⟩
 rw[hR];have HR:=Lib.hid hR;obtain ⟨x0,x7,x8,x9,x10,uG⟩:=hO.cells;have hrs:=hO.rs;have hlen:x.pend.length=rest.length+1:=by rw[Lg];rfl
 rw[hlen] at x10 hrs;rw[Lg] at hrs;obtain ⟨ar,har,_,_⟩:=hrs.at_ (by omega);subst har;obtain ⟨s0,s1⟩:=hrs.two;dsimp only at s0 s1;have hcr:=hrs.cap;have YK:=hrs.mx;have hpc:=hO.ps.sl.cap;have hpm:=hO.ps.sl.mx;have HH:=Lib.hid h;have HX:=Lib.hid hx;have HP:=Lib.hid hp;have HO:=Lib.hid hO;have Yy:=Lib.hid Lg;have HRS:=Lib.hid hrs;have HB:=Lib.hid hB;clear h hx hp hO Lg hrs hB hR hlen hpe;go_enter Tryz.func85,Tryz.ntmps85;go_wp2
 go_quiet (fail)
 go_wp2_with fail;have hA1:=HH.out.drewN nq;have Ku:=HO.out.drewN nq;have YL:=HRS.out.drewN nq;have hk1:Kept (fun k _=>D k) w (w.drewN nq):=(Kept.refl _ w).gU nq;clear s0 s1 x0 x7 x8 x9 x10 uG;generalize w.drewN nq=w1 at*;obtain ⟨x0,x7,x8,x9,x10,uG⟩:=Ku.cells;obtain ⟨x1,x2,x3,x4,x5,x6⟩:=(show w1.cell? ⟨p,1,none⟩=some (.bool false)∧w1.cell? ⟨p,2,none⟩=some (.bool false)∧w1.cell? ⟨p,3,none⟩=some (.bool false)∧w1.cell? ⟨p,4,none⟩=some (.int .i64 0)∧w1.cell? ⟨p,5,none⟩=some (.bool x.s)∧w1.cell? ⟨p,6,none⟩=some (.bool x.e) from
  ⟨Ku.blk.cell 1,Ku.blk.cell 2,Ku.blk.cell 3,Ku.blk.cell 4,Ku.blk.cell 5,Ku.blk.cell 6⟩)
 have f10:=Ku.blk.frozen 10;have hlen:x.pend.length=rest.length+1:=by rw[Yy.out];rfl
 rw[hlen] at x10;have HA1:=Lib.hid hA1;have HO1:=Lib.hid Ku;have ac8:=Lib.hid YL;have vg:=Lib.hid hk1;have jN:=Lib.hid hlen;clear hA1 Ku YL hk1 hlen HH HO HRS hcr YK;have aga:x.ps.length≤64:=hok.ps.hi;have hhd:=fun (W:World)=>pZ (x.ps.length:Int) false W ⟨by omega,by omega⟩
 have hhb:=xg (x.ps.length:Int);simp only[yV] at hhd;generalize hhh:iG (x.ps.length:Int)=hd at*;have R9:=Lib.hid hhd;have HHH:=Lib.hid hhh;have hsum:IntKind.i64.wrap (hd+(aF x:Nat))=hd+(aF x:Nat):=IntWalk.i64_in _ (by omega);clear hhd hhh;obtain ⟨b1,hb1⟩:∃b1,b1=decide (fr=0∧e0+1=aF x∧hd+(aF x:Int)≤n):=⟨_,rfl⟩
 have HB1:=Lib.hid hb1;clear hb1;go_cut [55] (fun s55 wx=>s55= .bool b1∧∃q,wx=w1.drewN q)
 case first=>
  have hb:=HB1.out;by_cases h1:fr=0
  ·have d1:((fr:Int)==0)=true:=by simp;omega
   by_cases h2:e0+1=aF x
   ·have d2:((e0:Int)+1==(aF x:Int))=true:=by simp;omega
    by_cases h3:hd+(aF x:Int)≤n
    ·have d3:decide (hd+(aF x:Int)≤n)=true:=decide_eq_true h3;have e1:b1=true:=by rw[hb];exact decide_eq_true ⟨h1,h2,h3⟩
     subst e1;have H1:=Lib.hid h1;have H2:=Lib.hid h2;clear h1 h2 hb;go_wp2
     go_quiet ((go_at_call 127;exact Calls.quiet_of_same ((R9.out _).mono fun _ _ hh=>⟨hh.1,hh.2.symm⟩)))
     go_wp2;go_meet;exact ⟨rfl,_,rfl⟩
    ·have d3:decide (hd+(aF x:Int)≤n)=false:=decide_eq_false h3;have e1:b1=false:=by rw[hb];exact decide_eq_false (by omega)
     subst e1;have H1:=Lib.hid h1;have H2:=Lib.hid h2;clear h1 h2 hb;go_wp2
     go_quiet ((go_at_call 127;exact Calls.quiet_of_same ((R9.out _).mono fun _ _ hh=>⟨hh.1,hh.2.symm⟩)))
     go_wp2;go_meet;exact ⟨rfl,_,rfl⟩
   ·have d2:((e0:Int)+1==(aF x:Int))=false:=by simp;omega
    have e1:b1=false:=by rw[hb];exact decide_eq_false (by omega)
    subst e1;have H1:=Lib.hid h1;clear h1 hb;go_wp2
    go_quiet (fail)
    go_wp2;go_meet;exact ⟨rfl,_,rfl⟩
  ·have d1:((fr:Int)==0)=false:=by simp;omega
   have e1:b1=false:=by rw[hb];exact decide_eq_false (by omega)
   subst e1;clear hb;go_wp2
   go_quiet (fail)
   go_wp2;go_meet;exact ⟨rfl,_,rfl⟩
 case rest=>
 obtain ⟨rfl,q,rfl⟩:=hcut;have hA2:=HA1.out.drewN q;have hO2:=HO1.out.drewN q;have UC:=ac8.out.drewN q;have hk2:=vg.out.gU q;clear x0 x1 x2 x3 x4 x5 x6 x7 x8 x9 x10 uG f10;generalize w1.drewN q=w2 at*;have HA2:=Lib.hid hA2;have OC:=Lib.hid hO2;have ac9:=Lib.hid UC;have xP:=Lib.hid hk2;have hgl:w.heap.size≤w2.heap.size:=hk2.size;have hdl:∀k,D k→k<w2.heap.size:=fun k hd=>hA2.lt k (hA2.sub k hd)
 have yu:=Lib.hid hdl;by_cases hcond:fr=0∧e0+1=aF x∧hd+(aF x:Int)≤n
 ·have e1:b1=true:=by rw[HB1.out];exact decide_eq_true hcond
  subst e1;have hRe:R=((bZ c (jT st i x []) false).1,some ⟨x.sn,(bZ c (jT st i x []) false).2,false,false,0,x.s,x.e,x.ps⟩):=by
   rw[←HR.out];unfold gX;rw[Yy.out];dsimp only;rw[if_pos (by rw[HHH.out];exact hcond)]
  have Mk:=Lib.hid hRe;clear hRe HR hcond hdl;obtain ⟨hA3,hO3⟩:=hA2.Ht HX.out HP.out hO2 10 (.slice none 0 0) (z:= {x with pend:= []}) (Jd:=none) (Kb:=0) rfl rfl (dM.nil _) (fun ad e=>by cases e);have hk3:=hk2.setCell (p:=⟨p,10,none⟩) (fun _ _=>hO2.d) (.slice none 0 0);have f10:=hO2.blk.frozen 10;have x10:=hO2.blk.cell 10;simp[Eh] at x10;clear hA2 hO2 UC hk2;have hps:=fun w' hk=>hO3.Ip (w':=w') hA3.lt hk
  have hB2:=HB.out;have hfi:Calls Tryz.prog 89 #[.pointer (some ⟨g,0,none⟩),.agg #[.int .i64 (x.sn:Nat),.bool false,.bool false,.bool false,.int .i64 0,.bool x.s,.bool x.e,.slice Ap x.ps.length cp],.bool false] (w2.setCell ⟨p,10,none⟩ (.slice none 0 0)) (Dp (w2.setCell ⟨p,10,none⟩ (.slice none 0 0)) D F g c (bZ c (jT st i x []) false).1 (wo x.sn (bZ c (jT st i x []) false).2 false false 0 x.s x.e x.ps)):=
   je hA3 hB2.held (by show (st.out.set i _).length≤512;rw[List.length_set];exact hw) hf x.sn false false false 0 x.s x.e Ap x.ps.length cp vp x.ps hps (og hok) (by omega) false
  have Fu:=Lib.hid hfi;obtain ⟨z0,z7,z8,z9,M7,Qj⟩:=hO3.cells;obtain ⟨z1,z2,z3,z4,z5,z6⟩:=(show (w2.setCell ⟨p,10,none⟩ (.slice none 0 0)).cell? ⟨p,1,none⟩=some (.bool false)∧(w2.setCell ⟨p,10,none⟩ (.slice none 0 0)).cell? ⟨p,2,none⟩=some (.bool false)∧(w2.setCell ⟨p,10,none⟩ (.slice none 0 0)).cell? ⟨p,3,none⟩=some (.bool false)∧(w2.setCell ⟨p,10,none⟩ (.slice none 0 0)).cell? ⟨p,4,none⟩=some (.int .i64 0)∧(w2.setCell ⟨p,10,none⟩ (.slice none 0 0)).cell? ⟨p,5,none⟩=some (.bool x.s)∧(w2.setCell ⟨p,10,none⟩ (.slice none 0 0)).cell? ⟨p,6,none⟩=some (.bool x.e) from
   ⟨hO3.blk.cell 1,hO3.blk.cell 2,hO3.blk.cell 3,hO3.blk.cell 4,hO3.blk.cell 5,hO3.blk.cell 6⟩)
  have lJ:=Lib.hid hk3;clear hA3 hO3 hps hfi hk3 z8 z9 M7 Qj hB2;go_upto_region 4 with (fail)
  generalize w2.setCell ⟨p,10,none⟩ (.slice none 0 0)=w3 at*;go_wp2_with fail;refine Fu.out.mono ?_;rintro e4 w4 ⟨v,rfl,hv,hO4⟩;go_wp2;go_ret;rw[Mk.out];have hz3:=lJ.out.size;exact ⟨v,rfl,aR hv hz3,kM.step lJ.out (bR.refl _ _) (bR.refl _ _) hO4⟩
 ·have e1:b1=false:=by rw[HB1.out];exact decide_eq_false hcond
  subst e1;clear hA2 hO2 UC hk2
  go_upto_block 0 with (fail)
  obtain ⟨J,hJ⟩:∃J,J=pJ (gu x fr n) (e0+1-fr) fr:=⟨_,rfl⟩
  have HJ:=Lib.hid hJ;have hJb:=wM (gu x fr n) (e0+1-fr) fr;rw[←hJ] at hJb;clear hJ;have hbe:oh w2 x fr fr (w2.alloc (.cells (bq 0 false false false 0 false false none 0 0) 148)):=⟨(Below.refl _ _).alloc (Nat.le_refl _) _,.inl ⟨rfl,au.new _ _ _⟩⟩;have Gh:=Lib.hid hbe;unfold bq at Gh;clear hbe;go_cut [10] (fun s10 wx=>s10= .int .i64 (J:Nat)∧oh w2 x fr J wx)
  case first=>
   go_wp2_with fail
   go_loopw [10,11] (fun s10 s11 wr=>∃j:Nat,fr≤j∧j≤e0+1∧s10= .int .i64 (j:Nat)∧s11= .int .i64 ((j:Int)+1)∧oh w2 x fr j wr∧J=pJ (gu x fr n) (e0+1-j) j) (fun _ i _=>e0+2-(intOf i).toNat)
   case atStart=>exact ⟨fr,Nat.le_refl _,by omega,rfl,rfl,Gh.out,HJ.out⟩
   case round=>
    obtain ⟨j,hj1,hj2,rfl,rfl,qL,hgo⟩:=hrel;have qI:=Lib.hid hgo;clear hgo;by_cases hlt:j<e0+1
    ·have hb2:=qL.1;have hOr:=OC.out.stay (w':=wr) (fun k hk=>hb2.block k (HA2.out.lt k hk));have hm:j+1≤aF x:=by omega
     have hdec:(decide (j+1=0+ah x.ps)&&(false|| !false))=decide (j+1=aF x):=by simp only[Nat.zero_add,Bool.false_or,Bool.not_false,Bool.and_true];rfl
     have hsl:jg wr wr.heap.size Ap x.ps.length cp vp x.ps:=hOr.ps;have hct:Calls Tryz.prog 128 #[.agg #[.int .i64 (x.sn:Nat),.bool false,.bool false,.bool false,.int .i64 0,.bool x.s,.bool x.e,.slice Ap x.ps.length cp],.int .i64 (fr:Nat),.int .i64 ((j:Int)+1)] wr (Ew wr (x.sn:Nat) (decide (j+1=aF x)) (fr:Nat) (bU x.ps x.s 0 fr x.ps.length) (dU x.ps x.e 0 (j+1) x.ps.length) (aP x.ps 0 fr (j+1) x.ps.length)):=by
      have:=PU (x.sn:Nat) false false false 0 x.s x.e Ap x.ps.length cp vp x.ps fr (j+1) wr hsl (og hok) (by omega) (Nat.zero_le _) (by omega) (by unfold aF at hm;omega);rw[hdec] at this;exact this
     have HCT:=Lib.hid hct;have hvp:=BN x.ps 0 fr (j+1) hok.ps (Nat.zero_le _) (by omega) (by unfold aF at hm;omega);have hvl:=hvp.lo;have hvh:=hvp.hi;have hsf:gu x fr n (j+1)=decide (iG ((aP x.ps 0 fr (j+1) x.ps.length).length:Int)+2+(((j+1:Nat):Int)-(fr:Int))≤n):=rfl;have hput:=fun w3 A cc=>qL.put (w3:=w3) (m:=j+1) (A:=A) (cc:=cc)
     have ada:=Lib.hid hput;have BO:=Lib.hid qL;have HSF:=Lib.hid hsf;obtain ⟨x0,x7,x8,x9,x10,uG⟩:=hOr.cells;obtain ⟨x1,x2,x3,x4,x5,x6⟩:=(show wr.cell? ⟨p,1,none⟩=some (.bool false)∧wr.cell? ⟨p,2,none⟩=some (.bool false)∧wr.cell? ⟨p,3,none⟩=some (.bool false)∧wr.cell? ⟨p,4,none⟩=some (.int .i64 0)∧wr.cell? ⟨p,5,none⟩=some (.bool x.s)∧wr.cell? ⟨p,6,none⟩=some (.bool x.e) from
      ⟨hOr.blk.cell 1,hOr.blk.cell 2,hOr.blk.cell 3,hOr.blk.cell 4,hOr.blk.cell 5,hOr.blk.cell 6⟩)
     clear hct hvp hsf hput qL hOr hsl hdec x8 x9 x10 uG;generalize aP x.ps 0 fr (j+1) x.ps.length=CP at*;generalize bU x.ps x.s 0 fr x.ps.length=CS at*;generalize dU x.ps x.e 0 (j+1) x.ps.length=CE at*;generalize decide (j+1=aF x)=CL at*;go_wp2_with fail;refine HCT.out.mono ?_;rintro e3 w3 ⟨hb3,Ac,cc,rfl,hpo⟩;unfold bq;have hcc:CP.length≤cc∧cc≤9223372036854775807:=by
      obtain ⟨vl,h1,_⟩:=hpo;exact ⟨(ed h1).cap,(ed h1).mx⟩
     obtain ⟨ajM,ajN⟩:=hcc;have UD:=fun (W:World)=>pZ (CP.length:Int) true W ⟨by omega,by omega⟩
     have ajO:=xg (CP.length:Int);rw[Ks _ (by omega) (by omega)] at UD;generalize DU:iG (CP.length:Int)=hd2 at*;have adb:=Lib.hid UD;have HH2:=Lib.hid DU;have HB3:=Lib.hid hb3;have RL:=Lib.hid hpo;clear UD DU hb3 hpo x0 x1 x2 x3 x4 x5 x6 x7;go_wp2_with fail;refine (adb.out _).mono ?_;rintro e4 w4 ⟨rfl,rfl⟩;by_cases hfit:hd2+2+(((j+1:Nat):Int)-(fr:Int))≤n
     ·have d1:decide (n<hd2+2+((j:Int)+1)-fr)=false:=decide_eq_false (by omega);have hbw:=Nat.le_trans BO.out.1.size HB3.out.size;have hnx:=ada.out (w3.alloc (.cells #[.int .i64 (x.sn:Nat),.bool false,.bool true,.bool CL,.int .i64 (fr:Nat),.bool CS,.bool CE,.slice Ac CP.length cc] 148)) Ac cc (HB3.out.alloc HB3.out.size _) (by omega) ((RL.out.vH BO.out.1.size).za ((Below.refl _ _).alloc (Nat.le_refl _) _));have Bu:=Lib.hid hnx;obtain ⟨u0,u1,u2,u3,u4,u5,u6,u7,hbk⟩:∃u0 u1 u2 u3 u4 u5 u6 u7,au w3 w2.heap.size 148 #[u0,u1,u2,u3,u4,u5,u6,u7]:=by
       have:=(BO.out.below HB3.out).2;rcases this with ⟨e,k⟩|⟨e,A,cc,k1,k2⟩
       ·exact ⟨_,_,_,_,_,_,_,_,k⟩
       ·exact ⟨_,_,_,_,_,_,_,_,k1⟩
      have AA:=hbk.alloc (.cells #[.int .i64 (x.sn:Nat),.bool false,.bool true,.bool CL,.int .i64 (fr:Nat),.bool CS,.bool CE,.slice Ac CP.length cc] 148);obtain ⟨y0,y1,y2,y3,y4,y5,y6,y7⟩:=AA.eight;have g0:=AA.frozen 0;have g1:=AA.frozen 1;have g2:=AA.frozen 2;have g3:=AA.frozen 3;have g4:=AA.frozen 4;have g5:=AA.frozen 5;have g6:=AA.frozen 6;have g7:=AA.frozen 7;have YM:J=pJ (gu x fr n) (e0+1-(j+1)) (j+1):=by
       rw[qI.out,show e0+1-j=(e0+1-(j+1))+1 by omega,pJ,HSF.out,if_pos (decide_eq_true hfit)]
      have ade:=Lib.hid YM;have hnb:=au.new w3 148 #[.int .i64 (x.sn:Nat),.bool false,.bool true,.bool CL,.int .i64 (fr:Nat),.bool CS,.bool CE,.slice Ac CP.length cc];obtain ⟨t0,t1,t2,t3,t4,t5,t6,t7⟩:=hnb.eight;clear hnx hbk AA YM hnb hbw;go_upto_region 12 with (fail)
      generalize w3.alloc (.cells #[.int .i64 (x.sn:Nat),.bool false,.bool true,.bool CL,.int .i64 (fr:Nat),.bool CS,.bool CE,.slice Ac CP.length cc] 148)=w5 at*;go_wp2
      go_roundw
      case rel=>exact ⟨j+1,by omega,by omega,by go_num,by go_num,Bu.out,ade.out⟩
      case measure=>simp[intOf];omega
     ·have d1:decide (n<hd2+2+((j:Int)+1)-fr)=true:=decide_eq_true (by omega);have hend:J=j:=by
       rw[qI.out,show e0+1-j=(e0+1-(j+1))+1 by omega,pJ,HSF.out,if_neg (by simpa using hfit)]
      subst hend;go_wp2;go_meet;exact ⟨rfl,BO.out.below (HB3.out.alloc HB3.out.size _)⟩
    ·have hend:J=j:=by
      have:=qI.out;rw[show e0+1-j=0 by omega] at this;exact this
     subst hend;have BO:=Lib.hid qL;clear qL;go_wp2;go_meet;exact ⟨rfl,BO.out⟩
  case rest=>
  obtain ⟨rfl,qL⟩:=hcut;have hb2:=qL.1;have PV:=HA2.out.below hb2;have hk4:Kept (fun k _=>D k) w wc:=xP.out.trans ((Kept.of_below hb2).fA fun k o ho hm=>by have:=lt_of_heap ho;omega);have hRe:=HR.out;unfold gX at hRe;rw[Yy.out] at hRe;dsimp only at hRe;rw[if_neg (by rw[HHH.out];exact hcond),←HJ.out] at hRe;by_cases Qy:J=fr
  ·rw[if_pos Qy] at hRe;have Mk:=Lib.hid hRe;have dJ:((J:Int)==(fr:Int))=true:=by simp;omega
   have HJ1:=Lib.hid Qy;have Kq:=Lib.hid PV;have zF:=Lib.hid hk4;clear hRe Qy PV hk4 qL hb2;go_wp2;go_ret;rw[←Mk.out];exact ⟨_,rfl,World.ownsRow_nil _ _ _ _,Kq.out.o zF.out⟩
  rw[if_neg Qy] at hRe;have dJ:((J:Int)==(fr:Int))=false:=by simp;omega
  have hfJ:fr<J:=by omega
  obtain ⟨-,⟨hc1,_⟩|⟨_,Ac,cc,hbb,hpo⟩⟩:=qL
  ·exact absurd hc1 Qy
  have hO4:=OC.out.stay (w':=wc) (fun k hk=>hb2.block k (HA2.out.lt k hk));have Qz:=ac9.out.below hb2;have x10:=hO4.blk.cell 10;have f10:=hO4.blk.frozen 10;simp[Eh] at x10;rw[jN.out] at x10;have hcr:=Qz.cap;have YK:=Qz.mx;have hJs:J≤0+ah x.ps:=by
   have h1:J≤aF x:=by omega
   unfold aF at h1;omega
  have hvp:=BN x.ps 0 fr J hok.ps (Nat.zero_le _) hfJ hJs;have hcs:=Qw x.ps 0 fr J (Nat.zero_le _) hJs;have hvA:gK (x.sn:Nat) true (decide (J=aF x)) (fr:Nat) (aP x.ps 0 fr J x.ps.length)=true:=
   (rz _ _ _ _ _).2 ⟨by omega,by have:=hok.sn;omega,(nN _).2 hvp,fun _=>by rw[hcs];omega,fun e=>by cases e⟩
  have J5:=PV;have hlr:rest.length≤1000:=by have:=jN.out;omega
  have ajQ:=hO4.blk.lt;have Ib:=Lib.hid hO4;have Kq:=Lib.hid PV;have zF:=Lib.hid hk4;have Gd:=Lib.hid hbb;have RL:=Lib.hid hpo;have QA:=Lib.hid Qz;have I6:=Lib.hid hvA;clear hO4 PV hk4 hbb hpo Qz hvA hcs hvp hb2 J5;by_cases hJ2:J=e0+1
  ·have dJ2:((J:Int)==(e0:Int)+1)=true:=by simp;omega
   rw[if_pos hJ2] at hRe;have Mk:=Lib.hid hRe;have HJ2:=Lib.hid hJ2;have HJS:=Lib.hid hJs;clear hRe hJ2 hJs;by_cases hc1:cr=1
   ·have hr0:rest= []:=List.eq_nil_of_length_eq_zero (by omega);have HR0:=Lib.hid hr0;clear hr0;have Nr:=vT (some ar) rest.length 0 rest wc (by have:=QA.out.tail;rw[if_pos hc1,hc1] at this;exact this) (by omega);have UE:=Lib.hid Nr;clear Nr;go_wp2_with fail;refine UE.out.mono ?_;rintro e5 w5 ⟨v5,rfl,hv5,hb5⟩;obtain ⟨F',A5,c5,rfl,Jl,Jm,lG,zb,qA⟩:=lY Kq.out zF.out HX.out HP.out Ib.out Gd.out RL.out hb5 hv5 (Nat.le_refl _);have UF:=(hb5.cell (p:=⟨p,10,none⟩) Ib.out.blk.lt).trans x10;have UG:=(hb5.frozen (p:=⟨p,10,none⟩) Ib.out.blk.lt).trans f10;obtain ⟨vl,hps⟩:=qA.Ip yu.out;have hfi:=je Jl HB.out.held (by show (st.out.set i _).length≤512;rw[List.length_set];exact hw) hf x.sn false true (decide (J=aF x)) fr (bU x.ps x.s 0 fr x.ps.length) (dU x.ps x.e 0 J x.ps.length) Ac (aP x.ps 0 fr J x.ps.length).length cc vl _ hps I6.out (by omega) false;unfold bq at hfi;have Fu:=Lib.hid hfi;obtain ⟨t0,t1,t2,t3,t4,t5,t6,t7⟩:=zb.eight;have rX:=Lib.hid lG;have OD:=Lib.hid Jm;clear Jl Jm lG zb qA hps hfi hv5;go_upto_region 18 with (fail)
    generalize w5.setCell ⟨p,10,none⟩ (.slice A5 rest.length c5)=w6 at*;clear UF UG;go_wp2_with fail;refine Fu.out.mono ?_;rintro e7 w7 ⟨v7,rfl,hv7,Jn⟩;go_wp2;go_ret;rw[←Mk.out];exact ⟨v7,rfl,aR hv7 rX.out.size,kM.step rX.out (bR.refl _ _) OD.out Jn⟩
   ·have Nr:=vT _ _ _ rest wc (QA.out.Se hc1) (by omega);have UE:=Lib.hid Nr;clear Nr;go_wp2_with fail;refine UE.out.mono ?_;rintro e5 w5 ⟨v5,rfl,hv5,hb5⟩;obtain ⟨F',A5,c5,rfl,Jl,Jm,lG,zb,qA⟩:=lY Kq.out zF.out HX.out HP.out Ib.out Gd.out RL.out hb5 hv5 (Nat.le_refl _);have UF:=(hb5.cell (p:=⟨p,10,none⟩) Ib.out.blk.lt).trans x10;have UG:=(hb5.frozen (p:=⟨p,10,none⟩) Ib.out.blk.lt).trans f10;obtain ⟨vl,hps⟩:=qA.Ip yu.out;have hfi:=je Jl HB.out.held (by show (st.out.set i _).length≤512;rw[List.length_set];exact hw) hf x.sn false true (decide (J=aF x)) fr (bU x.ps x.s 0 fr x.ps.length) (dU x.ps x.e 0 J x.ps.length) Ac (aP x.ps 0 fr J x.ps.length).length cc vl _ hps I6.out (by omega) false;unfold bq at hfi;have Fu:=Lib.hid hfi;obtain ⟨t0,t1,t2,t3,t4,t5,t6,t7⟩:=zb.eight;have rX:=Lib.hid lG;have OD:=Lib.hid Jm;clear Jl Jm lG zb qA hps hfi hv5;go_upto_region 18 with (fail)
    generalize w5.setCell ⟨p,10,none⟩ (.slice A5 rest.length c5)=w6 at*;clear UF UG;go_wp2_with fail;refine Fu.out.mono ?_;rintro e7 w7 ⟨v7,rfl,hv7,Jn⟩;go_wp2;go_ret;rw[←Mk.out];exact ⟨v7,rfl,aR hv7 rX.out.size,kM.step rX.out (bR.refl _ _) OD.out Jn⟩
  ·have dJ2:((J:Int)==(e0:Int)+1)=false:=by simp;omega
   rw[if_neg hJ2] at hRe;have Mk:=Lib.hid hRe;have HJ2:=Lib.hid hJ2;have HJS:=Lib.hid hJs;clear hRe hJ2 hJs;by_cases hc1:cr=1
   ·have hr0:rest= []:=List.eq_nil_of_length_eq_zero (by omega);have HR0:=Lib.hid hr0;have HT1:dM wc (some ar) rest.length 0 rest:=by have:=QA.out.tail;rw[if_pos hc1,hc1] at this;exact this
    clear hr0;have hW:=(au.new (wc.alloc (.cells #[.int .i64 (J:Nat),.int .i64 (e0:Nat)] 39)) 150 #[.slice (some ⟨wc.heap.size,0,none⟩) 1 1,.slice (some ar) rest.length 0]);rw[World.size_alloc] at hW;have YN:BD ((wc.alloc (.cells #[.int .i64 (J:Nat),.int .i64 (e0:Nat)] 39)).alloc (.cells #[.slice (some ⟨wc.heap.size,0,none⟩) 1 1,.slice (some ar) rest.length 0] 150)) (wc.heap.size+1) (some ⟨wc.heap.size,0,none⟩) (some ar) 1 1 rest.length (0) [(J,e0)] rest:=
     ⟨hW,(dM.new wc 39 J e0).alloc _,((HT1).alloc _).alloc _⟩
    have hcon:=tu (wc.heap.size+1) _ _ 1 1 rest.length (0) [(J,e0)] rest _ YN (by omega) (by omega);have UH:=Lib.hid hcon;clear hW YN hcon;go_wp2_with fail;refine UH.out.mono ?_;rintro e5 w5 ⟨v5,rfl,hv5,Ns⟩;have hb5:Below wc.heap.size wc w5:=(((Below.refl _ wc).alloc (Nat.le_refl _) _).alloc (by simp) _).trans (Ns.mono (by simp;omega));have hv5:w5.ownsRow ((wc.alloc (.cells #[.int .i64 (J:Nat),.int .i64 (e0:Nat)] 39)).alloc (.cells #[.slice (some ⟨wc.heap.size,0,none⟩) 1 1,.slice (some ar) rest.length 0] 150)).heap.size 39 2 v5 ((J,e0)::rest).length (mZ ((J,e0)::rest)):=hv5;clear Ns;obtain ⟨F',A5,c5,rfl,Jl,Jm,lG,zb,qA⟩:=lY Kq.out zF.out HX.out HP.out Ib.out Gd.out RL.out hb5 hv5 (by simp;omega);have UF:=(hb5.cell (p:=⟨p,10,none⟩) Ib.out.blk.lt).trans x10;have UG:=(hb5.frozen (p:=⟨p,10,none⟩) Ib.out.blk.lt).trans f10;obtain ⟨vl,hps⟩:=qA.Ip yu.out;have hfi:=je Jl HB.out.held (by show (st.out.set i _).length≤512;rw[List.length_set];exact hw) hf x.sn false true (decide (J=aF x)) fr (bU x.ps x.s 0 fr x.ps.length) (dU x.ps x.e 0 J x.ps.length) Ac (aP x.ps 0 fr J x.ps.length).length cc vl _ hps I6.out (by omega) false;unfold bq at hfi;have Fu:=Lib.hid hfi;obtain ⟨t0,t1,t2,t3,t4,t5,t6,t7⟩:=zb.eight;have rX:=Lib.hid lG;have OD:=Lib.hid Jm;clear Jl Jm lG zb qA hps hfi hv5;go_upto_region 18 with (fail)
    generalize w5.setCell ⟨p,10,none⟩ (.slice A5 ((J,e0)::rest).length c5)=w6 at*;clear UF UG;go_wp2_with fail;refine Fu.out.mono ?_;rintro e7 w7 ⟨v7,rfl,hv7,Jn⟩;go_wp2;go_ret;rw[←Mk.out];exact ⟨v7,rfl,aR hv7 rX.out.size,kM.step rX.out (bR.refl _ _) OD.out Jn⟩
   ·have hW:=(au.new (wc.alloc (.cells #[.int .i64 (J:Nat),.int .i64 (e0:Nat)] 39)) 150 #[.slice (some ⟨wc.heap.size,0,none⟩) 1 1,.slice (some ⟨ar.block,ar.off+2,none⟩) rest.length (cr-1)]);rw[World.size_alloc] at hW;have YN:BD ((wc.alloc (.cells #[.int .i64 (J:Nat),.int .i64 (e0:Nat)] 39)).alloc (.cells #[.slice (some ⟨wc.heap.size,0,none⟩) 1 1,.slice (some ⟨ar.block,ar.off+2,none⟩) rest.length (cr-1)] 150)) (wc.heap.size+1) (some ⟨wc.heap.size,0,none⟩) (some ⟨ar.block,ar.off+2,none⟩) 1 1 rest.length (cr-1) [(J,e0)] rest:=
     ⟨hW,(dM.new wc 39 J e0).alloc _,((QA.out.Se hc1).alloc _).alloc _⟩
    have hcon:=tu (wc.heap.size+1) _ _ 1 1 rest.length (cr-1) [(J,e0)] rest _ YN (by omega) (by omega);have UH:=Lib.hid hcon;clear hW YN hcon;go_wp2_with fail;refine UH.out.mono ?_;rintro e5 w5 ⟨v5,rfl,hv5,Ns⟩;have hb5:Below wc.heap.size wc w5:=(((Below.refl _ wc).alloc (Nat.le_refl _) _).alloc (by simp) _).trans (Ns.mono (by simp;omega));have hv5:w5.ownsRow ((wc.alloc (.cells #[.int .i64 (J:Nat),.int .i64 (e0:Nat)] 39)).alloc (.cells #[.slice (some ⟨wc.heap.size,0,none⟩) 1 1,.slice (some ⟨ar.block,ar.off+2,none⟩) rest.length (cr-1)] 150)).heap.size 39 2 v5 ((J,e0)::rest).length (mZ ((J,e0)::rest)):=hv5;clear Ns;obtain ⟨F',A5,c5,rfl,Jl,Jm,lG,zb,qA⟩:=lY Kq.out zF.out HX.out HP.out Ib.out Gd.out RL.out hb5 hv5 (by simp;omega);have UF:=(hb5.cell (p:=⟨p,10,none⟩) Ib.out.blk.lt).trans x10;have UG:=(hb5.frozen (p:=⟨p,10,none⟩) Ib.out.blk.lt).trans f10;obtain ⟨vl,hps⟩:=qA.Ip yu.out;have hfi:=je Jl HB.out.held (by show (st.out.set i _).length≤512;rw[List.length_set];exact hw) hf x.sn false true (decide (J=aF x)) fr (bU x.ps x.s 0 fr x.ps.length) (dU x.ps x.e 0 J x.ps.length) Ac (aP x.ps 0 fr J x.ps.length).length cc vl _ hps I6.out (by omega) false;unfold bq at hfi;have Fu:=Lib.hid hfi;obtain ⟨t0,t1,t2,t3,t4,t5,t6,t7⟩:=zb.eight;have rX:=Lib.hid lG;have OD:=Lib.hid Jm;clear Jl Jm lG zb qA hps hfi hv5;go_upto_region 18 with (fail)
    generalize w5.setCell ⟨p,10,none⟩ (.slice A5 ((J,e0)::rest).length c5)=w6 at*;clear UF UG;go_wp2_with fail;refine Fu.out.mono ?_;rintro e7 w7 ⟨v7,rfl,hv7,Jn⟩;go_wp2;go_ret;rw[←Mk.out];exact ⟨v7,rfl,aR hv7 rX.out.size,kM.step rX.out (bR.refl _ _) OD.out Jn⟩
end
end
section
open Go.RowKit
section
variable {D F:Nat→Prop} {g:Nat} {c:Cf} {st:Sd} {vq vo:Value} {vs os:List Value} {w:World}
theorem dS.grow (h:dS w D F g c st vq vs vo os) {W2 w5:World} {x:Ou} {Ap A5:Option Addr} {cp c5 p base:Nat} (hb2:Below w.heap.size w W2) (hp:au W2 p 152 (Eh x (.slice Ap x.ps.length cp) (.slice none 0 0))) (hpw:w.heap.size≤p)
 (hpo:aW W2 base (.slice Ap x.ps.length cp) x.ps) (hbase:w.heap.size≤base) (hpe:x.pend= []) (_hxp:∀q∈x.ps,1≤q.length)
 (hq:dN w5 0 138 (.slice A5 (st.out.length+1) c5) (st.out.length+1) (os++ [.pointer (some ⟨p,0,none⟩)])) (hg:(W2.alloc (.cells #[.pointer (some ⟨p,0,none⟩)] 138)).grownBy w5 (aS vo))
 (TU:∀k,aS (.slice A5 (st.out.length+1) c5)=some k→aS vo=some k∨(W2.alloc (.cells #[.pointer (some ⟨p,0,none⟩)] 138)).heap.size≤k):
 ∃D' F' vl,dS (w5.setCell ⟨g,12,none⟩ (.slice A5 (st.out.length+1) c5)) D' F' g c {st with out:=st.out++ [x]} vq vs (.slice A5 (st.out.length+1) c5) (os++ [.pointer (some ⟨p,0,none⟩)])∧bR w D D'∧bR w F F'∧
  Kept (fun k _=>D k) w (w5.setCell ⟨g,12,none⟩ (.slice A5 (st.out.length+1) c5))∧gI (w5.setCell ⟨g,12,none⟩ (.slice A5 (st.out.length+1) c5)) D' F' p x Ap cp vl none 0:=by
 have hz2:=hb2.size;have VX:(W2.alloc (.cells #[.pointer (some ⟨p,0,none⟩)] 138)).heap.size=W2.heap.size+1:=World.size_alloc _ _;have hgl:=h.blk.lt;have hgA:=(h.blk.below hb2 hgl).alloc (.cells #[.pointer (some ⟨p,0,none⟩)] 138);have hg5:=hgA.grown hg (fun e=>h.Yi.2 e.symm);have I8:=hg.size;have I7:(w5.setCell ⟨g,12,none⟩ (.slice A5 (st.out.length+1) c5)).heap.size=w5.heap.size:=by simp[World.setCell]
 have DU:∀k,k<W2.heap.size→k≠g→aS vo≠some k→(w5.setCell ⟨g,12,none⟩ (.slice A5 (st.out.length+1) c5)).heap[k]? =W2.heap[k]? :=fun k hk hkg hkq=>by
  rw[fq (show k≠(⟨g,12,none⟩:Addr).block from hkg),hg.block k (by omega) (fun e=>hkq e.symm),Below.heap_alloc _ _ k hk]
 have hh:∀k,k<w.heap.size→k≠g→aS vo≠some k→(w5.setCell ⟨g,12,none⟩ (.slice A5 (st.out.length+1) c5)).heap[k]? =w.heap[k]? :=fun k hk hkg hkq=>(DU k (by omega) hkg hkq).trans (hb2.block k hk)
 have MN:∀k,F k→k≠g→aS vq≠some k→aS vo≠some k→(w5.setCell ⟨g,12,none⟩ (.slice A5 (st.out.length+1) c5)).heap[k]? =w.heap[k]? :=fun k hf h1 _ h2=>hh k (h.lt k hf) h1 h2
 have hfr:∀k,w.heap.size≤k→k≠g∧aS vo≠some k:=fun k hk=>⟨by omega,fun e=>by have:=(h.qU.lt e).2;omega⟩
 have VO:=hq.store hg5 (by decide) (i:=12) (.slice A5 (st.out.length+1) c5);have EW:∀k,aS (.slice A5 (st.out.length+1) c5)=some k→D k∨W2.heap.size+1≤k:=fun k hk=>by
  rcases TU k hk with e|e
  ·exact .inl (h.od k e)
  ·exact .inr (by omega)
 have hpl:=hp.lt;have hnn:∀k,F k→¬D k→¬(D k∨k=p∨aS (.slice A5 (st.out.length+1) c5)=some k):=fun k hf hd e=>by
  have:=h.lt k hf;rcases e with e|e|e
  ·exact hd e
  ·omega
  ·rcases EW k e with e|e
   ·exact hd e
   ·omega
 obtain ⟨vl,h1,h2⟩:=hpo;have hfp:(w5.setCell ⟨g,12,none⟩ (.slice A5 (st.out.length+1) c5)).heap[p]? =W2.heap[p]? :=DU p hpl (hfr p hpw).1 (hfr p hpw).2;have hin:∀(k:Nat),base≤k→k<W2.heap.size→k≠p→(F k∨(w.heap.size≤k∧k<w5.heap.size))∧¬(D k∨k=p∨aS (.slice A5 (st.out.length+1) c5)=some k):=fun k hk1 hk2 hk3=>by
  refine ⟨.inr ⟨by omega,by omega⟩,?_⟩;rintro (e|e|e)
  ·have:=h.lt k (h.sub k e);omega
  ·exact hk3 e
  ·rcases EW k e with e|e
   ·have:=h.lt k (h.sub k e);omega
   ·omega
 have hOx:gI (w5.setCell ⟨g,12,none⟩ (.slice A5 (st.out.length+1) c5)) (fun k=>D k∨k=p∨aS (.slice A5 (st.out.length+1) c5)=some k) (fun k=>F k∨(w.heap.size≤k∧k<w5.heap.size)) p x Ap cp vl none 0:=by
  refine ⟨?_,.inr (.inl rfl),.inr ⟨hpw,by omega⟩,⟨(ed h1).stay (fun ad e=> ?_),rfl,fun i q hi=> ?_⟩,fun ad e=> ?_,fun i v hv ad e=> ?_,by rw[hpe];exact dM.nil _,fun ad e=>by cases e⟩
  ·have:au W2 p 152 (Eh x (.slice Ap x.ps.length cp) (.slice none x.pend.length 0)):=by rw[hpe];exact hp
   exact hfp.trans this
  ·subst e;have hl:=h1.lt ad.block rfl;exact DU _ hl.2 (hfr _ (by omega)).1 (hfr _ (by omega)).2
  ·obtain ⟨A,cq,e,ho⟩:=h2 i q hi;refine ⟨A,cq,e,(ed ho).stay fun ad ea=> ?_⟩;subst ea;have hl:=ho.lt ad.block rfl;exact DU _ hl.2 (hfr _ (by omega)).1 (hfr _ (by omega)).2
  ·subst e;have hl:=h1.lt ad.block rfl;exact hin _ hl.1 hl.2 (fun e2=>aI h1 hp (by decide) (by rw[←e2];rfl))
  ·have hil:i<x.ps.length:=by
    have:=(List.getElem?_eq_some_iff.1 hv).1;rw[(ed h1).len] at this;exact this
   obtain ⟨q,hqi⟩:∃q,x.ps[i]? =some q:=⟨_,List.getElem?_eq_getElem hil⟩
   obtain ⟨A,cq,e2,ho⟩:=h2 i q hqi;rw[e2] at hv;cases hv;have e3:A=some ad:=e;subst e3;have hl:=ho.lt ad.block rfl;exact hin _ hl.1 hl.2 (fun e2=>aI ho hp (by decide) (by rw[←e2];rfl))
 refine ⟨fun k=>D k∨k=p∨aS (.slice A5 (st.out.length+1) c5)=some k,fun k=>F k∨(w.heap.size≤k∧k<w5.heap.size),vl,⟨hg5.av 12 (.slice A5 (st.out.length+1) c5),.inl h.gd,?_,?_,?_,fun k hk=> .inl (h.qd k hk),?_,?_,fun k hk=> .inr (.inr hk),?_,?_⟩,?_,?_,?_,hOx⟩
 ·rintro k (hk|rfl|hk)
  ·exact .inl (h.sub k hk)
  ·exact .inr ⟨hpw,by omega⟩
  ·rcases EW k hk with e|e
   ·exact .inl (h.sub k e)
   ·exact .inr ⟨by omega,by have:=(VO.lt hk).2;omega⟩
 ·rintro k (hk|⟨hk1,hk2⟩)
  ·have:=h.lt k hk;omega
  ·omega
 ·exact h.qr.keep fun k hk=>hh k (h.qr.lt hk).2 (fun e=>h.Yi.1 (by rw[←e];exact hk)) (h.qne k hk)
 ·intro i q hi;obtain ⟨A,cc,k1,k2,k3⟩:=h.qes MN i q hi;exact ⟨A,cc,k1,k2,k3.sets (fun k hk=> .inl hk) hnn⟩
 ·have hl:(st.out++ [x]).length=st.out.length+1:=by simp
  show dN _ 0 _ _ (st.out++ [x]).length _
  rw[hl];exact VO
 ·intro i y hi;have hi':(st.out++ [x])[i]? =some y:=hi;rcases Nat.lt_or_ge i st.out.length with hlt|hge
  ·rw[List.getElem?_append_left hlt] at hi';obtain ⟨p',Ap',cp',vp',Jd,Kb,k1,k2⟩:=h.oes MN i y hi';exact ⟨p',Ap',cp',vp',Jd,Kb,by rw[List.getElem?_append_left (by rw[h.qU.1];exact hlt)];exact k1,k2.sets (fun k hk=> .inl hk) (fun k hk=> .inl hk) hnn⟩
  ·have hi0:i=st.out.length:=by
    have:=(List.getElem?_eq_some_iff.1 hi').1;simp at this;omega
   subst hi0;simp at hi';subst hi';exact ⟨p,Ap,cp,vl,none,0,by rw[←h.qU.1];simp,hOx⟩
 ·intro i j v hi hj;have hol:=h.qU.1;have hold:∀(a:Nat) (u:Value),a<st.out.length→os[a]? =some u→u≠ .pointer (some ⟨p,0,none⟩):=fun a u ha hu e=>by
   obtain ⟨x',hx'⟩:∃x',st.out[a]? =some x':=⟨_,List.getElem?_eq_getElem ha⟩
   obtain ⟨p',_,_,_,_,_,k1,k2⟩:=h.oe a x' hx';rw[hu] at k1;cases k1;cases e;have:=h.lt p k2.f;omega
  have key:∀a u,(os++ [Value.pointer (some ⟨p,0,none⟩)])[a]? =some u→(a<st.out.length∧os[a]? =some u)∨(a=st.out.length∧u= .pointer (some ⟨p,0,none⟩)):=fun a u hu=>by
   rcases Nat.lt_or_ge a st.out.length with hlt|hge
   ·rw[List.getElem?_append_left (by omega)] at hu;exact .inl ⟨hlt,hu⟩
   ·have ha:a=st.out.length:=by
     have:=(List.getElem?_eq_some_iff.1 hu).1;simp at this;omega
    subst ha;rw[List.getElem?_append_right (by omega),hol] at hu;simp at hu;exact .inr ⟨rfl,hu.symm⟩
  rcases key i v hi with ⟨a1,a2⟩|⟨a1,a2⟩<;>rcases key j v hj with ⟨b1,b2⟩|⟨b1,b2⟩
  ·exact h.inj i j v a2 b2
  ·exact absurd b2 (hold i v a1 a2)
  ·exact absurd a2 (hold j v b1 b2)
  ·omega
 ·rintro k (hk|rfl|hk)
  ·exact .inl hk
  ·exact .inr hpw
  ·rcases EW k hk with e|e
   ·exact .inl e
   ·exact .inr (by omega)
 ·rintro k (hk|⟨hk1,hk2⟩)
  ·exact .inl hk
  ·exact .inr hk1
 ·have hk1:Kept (fun k _=>D k) w W2:=(Kept.of_below hb2).fA fun k o ho hm=>by have:=lt_of_heap ho;omega
  exact ((hk1.alloc _).grown hg (fun k hk o ho=>h.od k hk)).setCell (p:=⟨g,12,none⟩) (fun _ _=>h.gd) _
end
end
end Go.Proofs.YtbhiklnljiehiaaGreat
