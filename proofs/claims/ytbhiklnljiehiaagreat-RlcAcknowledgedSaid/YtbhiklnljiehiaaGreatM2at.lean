/- amsend: again. -/
import Derived.Test.YtbhiklnljiehiaaGreatM2ar
import Derived.Test.YtbhiklnljiehiaaGreatM2as
namespace Go.Proofs.YtbhiklnljiehiaaGreat
section
open Go.RowKit Go.Shelf
attribute [local go_sem] Oper.semAt_some
def TC:Option Pu→List UInt8
 |none=> []
 |some p=>xC p.sn p.poll p.seg p.last p.off p.s p.e p.ps
theorem oH {x:Ou} (h:Bc x):gY (x.sn:Nat) false false 0 x.ps=true:=by
 have h1:=h.sn;have h2:=(nT x.ps).2 h.ps;simp[gY,mJ,h2];omega
section
variable {D F:Nat→Prop} {g:Nat} {c:Cf} {st:Sd} {vq vo:Value} {vs os:List Value} {w:World}
theorem dG.two {ar:Addr} {n cr:Nat} {r:Nat × Nat} {t:List (Nat × Nat)} (h:dG w (some ar) n cr (r::t)):w.cell? ar=some (.int .i64 (r.1:Nat))∧w.cell? ⟨ar.block,ar.off+1,none⟩=some (.int .i64 (r.2:Nat)):=by
 have hl:=h.len;simp at hl;obtain ⟨yu,e,hb,hc⟩:=h.at_ (by omega);cases e;have:=hc 0 r rfl;simpa[Addr.add] using this
theorem gU.JQ {p:Nat} {x:Ou} {Ap Ar:Option Addr} {cp cr:Nat} {vp:List Value} {w':World} (h:gU w D F p x Ap cp vp Ar cr) (hF:∀k,F k→k<w.heap.size) (hk:Kept (fun k _=>D k) w w'):iO w' w'.heap.size Ap x.ps.length cp vp x.ps:=by
 have nd:∀{A:Option Addr},DL F D A→∀ad,A=some ad→w'.heap[ad.block]? =w.heap[ad.block]? :=fun hi ad e=>by
  have hlt:=hF _ (hi ad e).1;have h1:w.heap[ad.block]? =some w.heap[ad.block]:=Array.getElem?_eq_getElem hlt;rw[h1];exact hk.same _ _ h1 (hi ad e).2
 exact h.ps.stay (nd h.pf) (fun i v ad hv e=>nd (h.pe i v hv) ad e)
theorem bF.JQ {base:Nat} {A:Option Addr} {cc:Nat} {ps:List (List UInt8)} (h:bF w base (.slice A ps.length cc) ps) (hD:∀k,D k→k<base):∃vl,∀w',Kept (fun k _=>D k) w w'→iO w' w'.heap.size A ps.length cc vl ps:=by
 obtain ⟨vl,h1,h2⟩:=h;refine ⟨vl,fun w' hk=>⟨dH (jA h1 hk fun k o hr hb hd=> ?_),rfl,fun i q hi=> ?_⟩⟩
 ·have:=(h1.lt k hb).1;have:=hD k hd;omega
 ·obtain ⟨A',c',e,ho⟩:=h2 i q hi;exact ⟨A',c',e,dH (jA ho hk fun k o hr hb hd=>by
   have:=(ho.lt k hb).1;have:=hD k hd;omega)⟩
def oI (w0:World) (x:Ou) (fr j:Nat) (wr:World):Prop:=
 Below w0.heap.size w0 wr∧((j=fr∧au wr w0.heap.size 148 (bH 0 false false false 0 false false none 0 0))∨
  (fr<j∧∃A cc,au wr w0.heap.size 148 (bH (x.sn:Nat) false true (decide (j=aG x)) (fr:Nat) (bZ x.ps x.s 0 fr x.ps.length) (ed x.ps x.e 0 j x.ps.length) A (aS x.ps 0 fr j x.ps.length).length cc)∧
   bF wr w0.heap.size (.slice A (aS x.ps 0 fr j x.ps.length).length cc) (aS x.ps 0 fr j x.ps.length)))
theorem bF.zT {base:Nat} {v:Value} {ps:List (List UInt8)} {w':World} (h:bF w base v ps) (hb:Below w.heap.size w w'):bF w' base v ps:=by
 obtain ⟨vl,h1,h2⟩:=h;exact ⟨vl,own_below h1 hb (aN),fun i q hi=>let ⟨A,c,e,ho⟩:=h2 i q hi;⟨A,c,e,own_below ho hb (aN)⟩⟩
theorem oI.below {w0 wr w':World} {x:Ou} {fr j:Nat} (h:oI w0 x fr j wr) (hb:Below wr.heap.size wr w'):oI w0 x fr j w':=by
 obtain ⟨h1,h2⟩:=h;refine ⟨h1.trans (hb.mono h1.size),?_⟩;rcases h2 with ⟨e,k⟩|⟨e,A,cc,k1,k2⟩
 ·exact .inl ⟨e,k.below hb k.lt⟩
 ·exact .inr ⟨e,A,cc,k1.below hb k1.lt,k2.zT hb⟩
theorem oI.put {w0 wr w3:World} {x:Ou} {fr j m:Nat} {A:Option Addr} {cc:Nat} (h:oI w0 x fr j wr) (hb:Below wr.heap.size wr w3) (hm:fr<m)
 (hp:bF w3 w0.heap.size (.slice A (aS x.ps 0 fr m x.ps.length).length cc) (aS x.ps 0 fr m x.ps.length)):
 oI w0 x fr m ((((((((w3.setCell ⟨w0.heap.size,0,none⟩ (.int .i64 (x.sn:Nat))).setCell ⟨w0.heap.size,1,none⟩ (.bool false)).setCell ⟨w0.heap.size,2,none⟩ (.bool true)).setCell ⟨w0.heap.size,3,none⟩ (.bool (decide (m=aG x)))).setCell ⟨w0.heap.size,4,none⟩ (.int .i64 (fr:Nat))).setCell ⟨w0.heap.size,5,none⟩ (.bool (bZ x.ps x.s 0 fr x.ps.length))).setCell ⟨w0.heap.size,6,none⟩ (.bool (ed x.ps x.e 0 m x.ps.length))).setCell ⟨w0.heap.size,7,none⟩ (.slice A (aS x.ps 0 fr m x.ps.length).length cc)):=by
 have h3:=h.below hb;obtain ⟨u0,u1,u2,u3,u4,u5,u6,u7,hbk⟩:∃u0 u1 u2 u3 u4 u5 u6 u7,au w3 w0.heap.size 148 #[u0,u1,u2,u3,u4,u5,u6,u7]:=by
  rcases h3.2 with ⟨e,k⟩|⟨e,A,cc,k1,k2⟩
  ·exact ⟨_,_,_,_,_,_,_,_,k⟩
  ·exact ⟨_,_,_,_,_,_,_,_,k1⟩
 have k0:=hp.store (i:=0) hbk (by decide) (by decide) (.int .i64 (x.sn:Nat));have k1:=k0.store (i:=1) (hbk.av 0 _) (by decide) (by decide) (.bool false);have k2:=k1.store (i:=2) ((hbk.av 0 _).av 1 _) (by decide) (by decide) (.bool true);have k3:=k2.store (i:=3) (((hbk.av 0 _).av 1 _).av 2 _) (by decide) (by decide) (.bool (decide (m=aG x)));have k4:=k3.store (i:=4) ((((hbk.av 0 _).av 1 _).av 2 _).av 3 _) (by decide) (by decide) (.int .i64 (fr:Nat));have k5:=k4.store (i:=5) (((((hbk.av 0 _).av 1 _).av 2 _).av 3 _).av 4 _) (by decide) (by decide) (.bool (bZ x.ps x.s 0 fr x.ps.length));have k6:=k5.store (i:=6) ((((((hbk.av 0 _).av 1 _).av 2 _).av 3 _).av 4 _).av 5 _) (by decide) (by decide) (.bool (ed x.ps x.e 0 m x.ps.length));have k7:=k6.store (i:=7) (((((((hbk.av 0 _).av 1 _).av 2 _).av 3 _).av 4 _).av 5 _).av 6 _) (by decide) (by decide) (.slice A (aS x.ps 0 fr m x.ps.length).length cc);exact ⟨oz h3.1 (aN) _ _ _ _ _ _ _ _,.inr ⟨hm,A,cc,hbk.OP _ _ _ _ _ _ _ _,k7⟩⟩
theorem mE {w0 wc w5:World} {i p bb base:Nat} {x:Ou} {Ap Ar Ac:Option Addr} {cp cr cc:Nat} {vp:List Value} {l:List (Nat × Nat)} {v5:Value} {sn fr:Nat} {la s e:Bool} {CP:List (List UInt8)}
 (hA:dV wc D F g c st vq vs vo os) (hk:Kept (fun k _=>D k) w0 wc) (hx:st.out[i]? =some x) (hp:os[i]? =some (.pointer (some ⟨p,0,none⟩))) (hO:gU wc D F p x Ap cp vp Ar cr)
 (hbb:au wc bb 148 (bH (sn:Nat) false true la (fr:Nat) s e Ac CP.length cc)) (hpo:bF wc bb (.slice Ac CP.length cc) CP)
 (hb5:Below wc.heap.size wc w5) (hv5:w5.ownsRow base 39 2 v5 l.length (mR l)) (hbase:wc.heap.size≤base):
 ∃F' A5 c5,v5= .slice A5 l.length c5∧dV (w5.setCell ⟨p,10,none⟩ (.slice A5 l.length c5)) D F' g c (j5 st i x l) vq vs vo os∧bW w0 F F'∧Kept (fun k _=>D k) w0 (w5.setCell ⟨p,10,none⟩ (.slice A5 l.length c5))∧
  au (w5.setCell ⟨p,10,none⟩ (.slice A5 l.length c5)) bb 148 (bH (sn:Nat) false true la (fr:Nat) s e Ac CP.length cc)∧bF (w5.setCell ⟨p,10,none⟩ (.slice A5 l.length c5)) bb (.slice Ac CP.length cc) CP:=by
 obtain ⟨A5,c5,rfl,hsp,Md⟩:=dG.cB hv5;have hz:=hk.size;have h5:=(hA.below hb5).Gh (F':=fun k=>F k∨∃ad,A5=some ad∧k=ad.block) (fun _=> .inl) (fun k hk=>by
  rcases hk with hk|⟨ad,e,rfl⟩
  ·exact (hA.below hb5).lt k hk
  ·exact (Md ad e).2)
 have E8:=(hO.stay (w':=w5) fun k hk=>hb5.block k (hA.lt k hk)).Gh (F':=fun k=>F k∨∃ad,A5=some ad∧k=ad.block) (fun _=> .inl);obtain ⟨h6,IE⟩:=h5.Js hx hp E8 10 (.slice A5 l.length c5) (z:= {x with pend:=l}) (KO:=A5) (Mj:=c5) rfl rfl hsp (fun ad e=>⟨.inr ⟨ad,e,rfl⟩,fun hd=>by
  have h1:=(Md ad e).1;have h2:=hA.lt _ (hA.sub _ hd);omega⟩)
 have hk5:Kept (fun k _=>D k) w0 w5:=hk.trans ((Kept.of_below hb5).fE fun k o ho hm=>by have:=lt_of_heap ho;omega);refine ⟨_,A5,c5,rfl,h6,fun k hk'=> ?_,hk5.setCell (p:=⟨p,10,none⟩) (fun _ _=>hO.d) _,(hbb.below hb5 hbb.lt).far (p:=⟨p,10,none⟩) (hbb.off hO.blk (by decide)) _,(hpo.zT hb5).store E8.blk (by decide) (by decide) _⟩;rcases hk' with hk'|⟨ad,e,rfl⟩
 ·exact .inl hk'
 ·have:=(Md ad e).1;exact .inr (by omega)
theorem dG.Vh {ar:Addr} {n cr:Nat} {r:Nat × Nat} {l:List (Nat × Nat)} (h:dG w (some ar) (n+1) cr (r::l)) (hc:¬cr=1):dG w (some ⟨ar.block,ar.off+2,none⟩) n (cr-1) l:=by
 have:=h.tail;rw[if_neg hc] at this;simpa[Addr.add] using this
set_option maxRecDepth 100000 in
set_option maxHeartbeats 4000000 in
theorem JR (h:dV w D F g c st vq vs vo os) {K:Nat} (hB:jF st K) (hw:st.out.length≤512) (hf:st.first<1024) {i p:Nat} {x:Ou} {Ap Ar:Option Addr} {cp cr:Nat} {vp:List Value} (hx:st.out[i]? =some x) (hp:os[i]? =some (.pointer (some ⟨p,0,none⟩))) (hO:gU w D F p x Ap cp vp Ar cr) (hpe:x.pend≠ [])
 (n:Int) (hn:0≤n) (hn2:n≤9223372036854775807):
 Calls Tryz.prog 85 #[.pointer (some ⟨g,0,none⟩),.pointer (some ⟨p,0,none⟩),.int .i64 n] w (Ew w D F g c (iC c n st i x).1 (TC (iC c n st i x).2)):=by
 obtain ⟨⟨fr,e0⟩,rest,NJ⟩:=List.exists_cons_of_ne_nil hpe;have hok:=hB.ou x (List.mem_of_getElem? hx);have hsz:=gX hok;have hr:=hok.pr (fr,e0) (by rw[NJ];simp);have hpl:=hok.pl;dsimp only at hr;obtain ⟨R,hR⟩:∃R,iC c n st i x=R:=⟨_,rfl⟩
 rw[hR];have HR:=ah hR;obtain ⟨x0,x7,x8,x9,x10,vF⟩:=hO.cells;have hrs:=hO.rs;have hlen:x.pend.length=rest.length+1:=by rw[NJ];rfl
 rw[hlen] at x10 hrs;rw[NJ] at hrs;obtain ⟨ar,har,_,_⟩:=hrs.at_ (by omega);subst har;obtain ⟨s0,s1⟩:=hrs.two;dsimp only at s0 s1;have hcr:=hrs.cap;have aa2:=hrs.mx;have hpc:=hO.ps.sl.cap;have hpm:=hO.ps.sl.mx;have HH:=ah h;have HX:=ah hx;have HP:=ah hp;have HO:=ah hO;have HPD:=ah NJ;have HRS:=ah hrs;have HB:=ah hB;clear h hx hp hO NJ hrs hB hR hlen hpe;go_enter Tryz.func85,Tryz.ntmps85;go_wp2
 go_quiet (fail)
 go_wp2_with fail;have hA1:=HH.out.drewN nq;have ML:=HO.out.drewN nq;have aa3:=HRS.out.drewN nq;have hk1:Kept (fun k _=>D k) w (w.drewN nq):=(Kept.refl _ w).iy nq;clear s0 s1 x0 x7 x8 x9 x10 vF;generalize w.drewN nq=w1 at*;obtain ⟨x0,x7,x8,x9,x10,vF⟩:=ML.cells;obtain ⟨x1,x2,x3,x4,x5,x6⟩:=(show w1.cell? ⟨p,1,none⟩=some (.bool false)∧w1.cell? ⟨p,2,none⟩=some (.bool false)∧w1.cell? ⟨p,3,none⟩=some (.bool false)∧w1.cell? ⟨p,4,none⟩=some (.int .i64 0)∧w1.cell? ⟨p,5,none⟩=some (.bool x.s)∧w1.cell? ⟨p,6,none⟩=some (.bool x.e) from
  ⟨ML.blk.cell 1,ML.blk.cell 2,ML.blk.cell 3,ML.blk.cell 4,ML.blk.cell 5,ML.blk.cell 6⟩)
 have f10:=ML.blk.frozen 10;have hlen:x.pend.length=rest.length+1:=by rw[HPD.out];rfl
 rw[hlen] at x10;have HA1:=ah hA1;have HO1:=ah ML;have afA:=ah aa3;have tJ:=ah hk1;have jw:=ah hlen;clear hA1 ML aa3 hk1 hlen HH HO HRS hcr aa2;have aiE:x.ps.length≤64:=hok.ps.hi;have hhd:=fun (W:World)=>qz (x.ps.length:Int) false W ⟨by omega,by omega⟩
 have hhb:=yo (x.ps.length:Int);simp only[zP] at hhd;generalize hhh:iQ (x.ps.length:Int)=hd at*;have Ve:=ah hhd;have HHH:=ah hhh;have hsum:IntKind.i64.wrap (hd+(aG x:Nat))=hd+(aG x:Nat):=IntWalk.i64_in _ (by omega);clear hhd hhh;obtain ⟨b1,hb1⟩:∃b1,b1=decide (fr=0∧e0+1=aG x∧hd+(aG x:Int)≤n):=⟨_,rfl⟩
 have HB1:=ah hb1;clear hb1;go_cut [55] (fun s55 wx=>s55= .bool b1∧∃q,wx=w1.drewN q)
 case first=>
  have hb:=HB1.out;by_cases h1:fr=0
  ·have d1:((fr:Int)==0)=true:=by simp;omega
   by_cases h2:e0+1=aG x
   ·have d2:((e0:Int)+1==(aG x:Int))=true:=by simp;omega
    by_cases h3:hd+(aG x:Int)≤n
    ·have d3:decide (hd+(aG x:Int)≤n)=true:=decide_eq_true h3;have e1:b1=true:=by rw[hb];exact decide_eq_true ⟨h1,h2,h3⟩
     subst e1;have H1:=ah h1;have H2:=ah h2;clear h1 h2 hb;go_wp2
     go_quiet ((go_at_call 127;exact Calls.quiet_of_same ((Ve.out _).mono fun _ _ hh=>⟨hh.1,hh.2.symm⟩)))
     go_wp2;go_meet;exact ⟨rfl,_,rfl⟩
    ·have d3:decide (hd+(aG x:Int)≤n)=false:=decide_eq_false h3;have e1:b1=false:=by rw[hb];exact decide_eq_false (by omega)
     subst e1;have H1:=ah h1;have H2:=ah h2;clear h1 h2 hb;go_wp2
     go_quiet ((go_at_call 127;exact Calls.quiet_of_same ((Ve.out _).mono fun _ _ hh=>⟨hh.1,hh.2.symm⟩)))
     go_wp2;go_meet;exact ⟨rfl,_,rfl⟩
   ·have d2:((e0:Int)+1==(aG x:Int))=false:=by simp;omega
    have e1:b1=false:=by rw[hb];exact decide_eq_false (by omega)
    subst e1;have H1:=ah h1;clear h1 hb;go_wp2
    go_quiet (fail)
    go_wp2;go_meet;exact ⟨rfl,_,rfl⟩
  ·have d1:((fr:Int)==0)=false:=by simp;omega
   have e1:b1=false:=by rw[hb];exact decide_eq_false (by omega)
   subst e1;clear hb;go_wp2
   go_quiet (fail)
   go_wp2;go_meet;exact ⟨rfl,_,rfl⟩
 case rest=>
 obtain ⟨rfl,q,rfl⟩:=hcut;have hA2:=HA1.out.drewN q;have hO2:=HO1.out.drewN q;have Xr:=afA.out.drewN q;have hk2:=tJ.out.iy q;clear x0 x1 x2 x3 x4 x5 x6 x7 x8 x9 x10 vF f10;generalize w1.drewN q=w2 at*;have HA2:=ah hA2;have C8:=ah hO2;have afB:=ah Xr;have wG:=ah hk2;have hgl:w.heap.size≤w2.heap.size:=hk2.size;have hdl:∀k,D k→k<w2.heap.size:=fun k hd=>hA2.lt k (hA2.sub k hd)
 have zl:=ah hdl;by_cases hcond:fr=0∧e0+1=aG x∧hd+(aG x:Int)≤n
 ·have e1:b1=true:=by rw[HB1.out];exact decide_eq_true hcond
  subst e1;have hRe:R=((dh c (j5 st i x []) false).1,some ⟨x.sn,(dh c (j5 st i x []) false).2,false,false,0,x.s,x.e,x.ps⟩):=by
   rw[←HR.out];unfold iC;rw[HPD.out];dsimp only;rw[if_pos (by rw[HHH.out];exact hcond)]
  have OW:=ah hRe;clear hRe HR hcond hdl;obtain ⟨hA3,hO3⟩:=hA2.Js HX.out HP.out hO2 10 (.slice none 0 0) (z:= {x with pend:= []}) (KO:=none) (Mj:=0) rfl rfl (dG.nil _) (fun ad e=>by cases e);have hk3:=hk2.setCell (p:=⟨p,10,none⟩) (fun _ _=>hO2.d) (.slice none 0 0);have f10:=hO2.blk.frozen 10;have x10:=hO2.blk.cell 10;simp[DN] at x10;clear hA2 hO2 Xr hk2;have hps:=fun w' hk=>hO3.JQ (w':=w') hA3.lt hk
  have hB2:=HB.out;have hfi:Calls Tryz.prog 89 #[.pointer (some ⟨g,0,none⟩),.agg #[.int .i64 (x.sn:Nat),.bool false,.bool false,.bool false,.int .i64 0,.bool x.s,.bool x.e,.slice Ap x.ps.length cp],.bool false] (w2.setCell ⟨p,10,none⟩ (.slice none 0 0)) (Ew (w2.setCell ⟨p,10,none⟩ (.slice none 0 0)) D F g c (dh c (j5 st i x []) false).1 (xC x.sn (dh c (j5 st i x []) false).2 false false 0 x.s x.e x.ps)):=
   jq hA3 hB2.held (by show (st.out.set i _).length≤512;rw[List.length_set];exact hw) hf x.sn false false false 0 x.s x.e Ap x.ps.length cp vp x.ps hps (oH hok) (by omega) false
  have GQ:=ah hfi;obtain ⟨z0,z7,z8,z9,KR,Tj⟩:=hO3.cells;obtain ⟨z1,z2,z3,z4,z5,z6⟩:=(show (w2.setCell ⟨p,10,none⟩ (.slice none 0 0)).cell? ⟨p,1,none⟩=some (.bool false)∧(w2.setCell ⟨p,10,none⟩ (.slice none 0 0)).cell? ⟨p,2,none⟩=some (.bool false)∧(w2.setCell ⟨p,10,none⟩ (.slice none 0 0)).cell? ⟨p,3,none⟩=some (.bool false)∧(w2.setCell ⟨p,10,none⟩ (.slice none 0 0)).cell? ⟨p,4,none⟩=some (.int .i64 0)∧(w2.setCell ⟨p,10,none⟩ (.slice none 0 0)).cell? ⟨p,5,none⟩=some (.bool x.s)∧(w2.setCell ⟨p,10,none⟩ (.slice none 0 0)).cell? ⟨p,6,none⟩=some (.bool x.e) from
   ⟨hO3.blk.cell 1,hO3.blk.cell 2,hO3.blk.cell 3,hO3.blk.cell 4,hO3.blk.cell 5,hO3.blk.cell 6⟩)
  have lX:=ah hk3;clear hA3 hO3 hps hfi hk3 z8 z9 KR Tj hB2;go_upto_region 4 with (fail)
  generalize w2.setCell ⟨p,10,none⟩ (.slice none 0 0)=w3 at*;go_wp2_with fail;refine GQ.out.mono ?_;rintro e4 w4 ⟨v,rfl,hv,hO4⟩;go_wp2;go_ret;rw[OW.out];have hz3:=lX.out.size;exact ⟨v,rfl,aU hv hz3,kX.step lX.out (bW.refl _ _) (bW.refl _ _) hO4⟩
 ·have e1:b1=false:=by rw[HB1.out];exact decide_eq_false hcond
  subst e1;clear hA2 hO2 Xr hk2
  go_upto_block 0 with (fail)
  obtain ⟨J,hJ⟩:∃J,J=qc (gL x fr n) (e0+1-fr) fr:=⟨_,rfl⟩
  have HJ:=ah hJ;have hJb:=xR (gL x fr n) (e0+1-fr) fr;rw[←hJ] at hJb;clear hJ;have hbe:oI w2 x fr fr (w2.alloc (.cells (bH 0 false false false 0 false false none 0 0) 148)):=⟨(Below.refl _ _).alloc (aN) _,.inl ⟨rfl,au.new _ _ _⟩⟩;have IB:=ah hbe;unfold bH at IB;clear hbe;go_cut [10] (fun s10 wx=>s10= .int .i64 (J:Nat)∧oI w2 x fr J wx)
  case first=>
   go_wp2_with fail
   go_loopw [10,11] (fun s10 s11 wr=>∃j:Nat,fr≤j∧j≤e0+1∧s10= .int .i64 (j:Nat)∧s11= .int .i64 ((j:Int)+1)∧oI w2 x fr j wr∧J=qc (gL x fr n) (e0+1-j) j) (fun _ i _=>e0+2-(intOf i).toNat)
   case atStart=>exact ⟨fr,aN,by omega,rfl,rfl,IB.out,HJ.out⟩
   case round=>
    obtain ⟨j,hj1,hj2,rfl,rfl,rO,hgo⟩:=hrel;have rH:=ah hgo;clear hgo;by_cases hlt:j<e0+1
    ·have hb2:=rO.1;have hOr:=C8.out.stay (w':=wr) (fun k hk=>hb2.block k (HA2.out.lt k hk));have hm:j+1≤aG x:=by omega
     have hdec:(decide (j+1=0+aj x.ps)&&(false|| !false))=decide (j+1=aG x):=by simp only[Nat.zero_add,Bool.false_or,Bool.not_false,Bool.and_true];rfl
     have hsl:iO wr wr.heap.size Ap x.ps.length cp vp x.ps:=hOr.ps;have hct:Calls Tryz.prog 128 #[.agg #[.int .i64 (x.sn:Nat),.bool false,.bool false,.bool false,.int .i64 0,.bool x.s,.bool x.e,.slice Ap x.ps.length cp],.int .i64 (fr:Nat),.int .i64 ((j:Int)+1)] wr (FO wr (x.sn:Nat) (decide (j+1=aG x)) (fr:Nat) (bZ x.ps x.s 0 fr x.ps.length) (ed x.ps x.e 0 (j+1) x.ps.length) (aS x.ps 0 fr (j+1) x.ps.length)):=by
      have:=SA (x.sn:Nat) false false false 0 x.s x.e Ap x.ps.length cp vp x.ps fr (j+1) wr hsl (oH hok) (by omega) (Nat.zero_le _) (by omega) (by unfold aG at hm;omega);rw[hdec] at this;exact this
     have HCT:=ah hct;have hvp:=C6 x.ps 0 fr (j+1) hok.ps (Nat.zero_le _) (by omega) (by unfold aG at hm;omega);have hvl:=hvp.lo;have hvh:=hvp.hi;have hsf:gL x fr n (j+1)=decide (iQ ((aS x.ps 0 fr (j+1) x.ps.length).length:Int)+2+(((j+1:Nat):Int)-(fr:Int))≤n):=rfl;have hput:=fun w3 A cc=>rO.put (w3:=w3) (m:=j+1) (A:=A) (cc:=cc)
     have afC:=ah hput;have C9:=ah rO;have HSF:=ah hsf;obtain ⟨x0,x7,x8,x9,x10,vF⟩:=hOr.cells;obtain ⟨x1,x2,x3,x4,x5,x6⟩:=(show wr.cell? ⟨p,1,none⟩=some (.bool false)∧wr.cell? ⟨p,2,none⟩=some (.bool false)∧wr.cell? ⟨p,3,none⟩=some (.bool false)∧wr.cell? ⟨p,4,none⟩=some (.int .i64 0)∧wr.cell? ⟨p,5,none⟩=some (.bool x.s)∧wr.cell? ⟨p,6,none⟩=some (.bool x.e) from
      ⟨hOr.blk.cell 1,hOr.blk.cell 2,hOr.blk.cell 3,hOr.blk.cell 4,hOr.blk.cell 5,hOr.blk.cell 6⟩)
     clear hct hvp hsf hput rO hOr hsl hdec x8 x9 x10 vF;generalize aS x.ps 0 fr (j+1) x.ps.length=CP at*;generalize bZ x.ps x.s 0 fr x.ps.length=CS at*;generalize ed x.ps x.e 0 (j+1) x.ps.length=CE at*;generalize decide (j+1=aG x)=CL at*;go_wp2_with fail;refine HCT.out.mono ?_;rintro e3 w3 ⟨hb3,Ac,cc,rfl,hpo⟩;unfold bH;have hcc:CP.length≤cc∧cc≤9223372036854775807:=by
      obtain ⟨vl,h1,_⟩:=hpo;exact ⟨(dH h1).cap,(dH h1).mx⟩
     obtain ⟨al4,al5⟩:=hcc;have Xt:=fun (W:World)=>qz (CP.length:Int) true W ⟨by omega,by omega⟩
     have al6:=yo (CP.length:Int);rw[MI _ (by omega) (by omega)] at Xt;generalize E5:iQ (CP.length:Int)=hd2 at*;have afD:=ah Xt;have HH2:=ah E5;have HB3:=ah hb3;have UQ:=ah hpo;clear Xt E5 hb3 hpo x0 x1 x2 x3 x4 x5 x6 x7;go_wp2_with fail;refine (afD.out _).mono ?_;rintro e4 w4 ⟨rfl,rfl⟩;by_cases hfit:hd2+2+(((j+1:Nat):Int)-(fr:Int))≤n
     ·have d1:decide (n<hd2+2+((j:Int)+1)-fr)=false:=decide_eq_false (by omega);have hbw:=Nat.le_trans C9.out.1.size HB3.out.size;have hnx:=afC.out (w3.alloc (.cells #[.int .i64 (x.sn:Nat),.bool false,.bool true,.bool CL,.int .i64 (fr:Nat),.bool CS,.bool CE,.slice Ac CP.length cc] 148)) Ac cc (HB3.out.alloc HB3.out.size _) (by omega) ((UQ.out.wD C9.out.1.size).zT ((Below.refl _ _).alloc (aN) _));have AQ:=ah hnx;obtain ⟨u0,u1,u2,u3,u4,u5,u6,u7,hbk⟩:∃u0 u1 u2 u3 u4 u5 u6 u7,au w3 w2.heap.size 148 #[u0,u1,u2,u3,u4,u5,u6,u7]:=by
       have:=(C9.out.below HB3.out).2;rcases this with ⟨e,k⟩|⟨e,A,cc,k1,k2⟩
       ·exact ⟨_,_,_,_,_,_,_,_,k⟩
       ·exact ⟨_,_,_,_,_,_,_,_,k1⟩
      have BM:=hbk.alloc (.cells #[.int .i64 (x.sn:Nat),.bool false,.bool true,.bool CL,.int .i64 (fr:Nat),.bool CS,.bool CE,.slice Ac CP.length cc] 148);obtain ⟨y0,y1,y2,y3,y4,y5,y6,y7⟩:=BM.eight;have g0:=BM.frozen 0;have g1:=BM.frozen 1;have g2:=BM.frozen 2;have g3:=BM.frozen 3;have g4:=BM.frozen 4;have g5:=BM.frozen 5;have g6:=BM.frozen 6;have g7:=BM.frozen 7;have aa4:J=qc (gL x fr n) (e0+1-(j+1)) (j+1):=by
       rw[rH.out,show e0+1-j=(e0+1-(j+1))+1 by omega,qc,HSF.out,if_pos (decide_eq_true hfit)]
      have afE:=ah aa4;have hnb:=au.new w3 148 #[.int .i64 (x.sn:Nat),.bool false,.bool true,.bool CL,.int .i64 (fr:Nat),.bool CS,.bool CE,.slice Ac CP.length cc];obtain ⟨t0,t1,t2,t3,t4,t5,t6,t7⟩:=hnb.eight;clear hnx hbk BM aa4 hnb hbw;go_upto_region 12 with (fail)
      generalize w3.alloc (.cells #[.int .i64 (x.sn:Nat),.bool false,.bool true,.bool CL,.int .i64 (fr:Nat),.bool CS,.bool CE,.slice Ac CP.length cc] 148)=w5 at*;go_wp2
      go_roundw
      case rel=>exact ⟨j+1,by omega,by omega,by go_num,by go_num,AQ.out,afE.out⟩
      case measure=>simp[intOf];omega
     ·have d1:decide (n<hd2+2+((j:Int)+1)-fr)=true:=decide_eq_true (by omega);have hend:J=j:=by
       rw[rH.out,show e0+1-j=(e0+1-(j+1))+1 by omega,qc,HSF.out,if_neg (by simpa using hfit)]
      subst hend;go_wp2;go_meet;exact ⟨rfl,C9.out.below (HB3.out.alloc HB3.out.size _)⟩
    ·have hend:J=j:=by
      have:=rH.out;rw[show e0+1-j=0 by omega] at this;exact this
     subst hend;have C9:=ah rO;clear rO;go_wp2;go_meet;exact ⟨rfl,C9.out⟩
  case rest=>
  obtain ⟨rfl,rO⟩:=hcut;have hb2:=rO.1;have SB:=HA2.out.below hb2;have hk4:Kept (fun k _=>D k) w wc:=wG.out.trans ((Kept.of_below hb2).fE fun k o ho hm=>by have:=lt_of_heap ho;omega);have hRe:=HR.out;unfold iC at hRe;rw[HPD.out] at hRe;dsimp only at hRe;rw[if_neg (by rw[HHH.out];exact hcond),←HJ.out] at hRe;by_cases TE:J=fr
  ·rw[if_pos TE] at hRe;have OW:=ah hRe;have dJ:((J:Int)==(fr:Int))=true:=by simp;omega
   have HJ1:=ah TE;have MG:=ah SB;have xB:=ah hk4;clear hRe TE SB hk4 rO hb2;go_wp2;go_ret;rw[←OW.out];exact ⟨_,rfl,World.ownsRow_nil _ _ _ _,MG.out.o xB.out⟩
  rw[if_neg TE] at hRe;have dJ:((J:Int)==(fr:Int))=false:=by simp;omega
  have hfJ:fr<J:=by omega
  obtain ⟨-,⟨hc1,_⟩|⟨_,Ac,cc,hbb,hpo⟩⟩:=rO
  ·exact absurd hc1 TE
  have hO4:=C8.out.stay (w':=wc) (fun k hk=>hb2.block k (HA2.out.lt k hk));have TF:=afB.out.below hb2;have x10:=hO4.blk.cell 10;have f10:=hO4.blk.frozen 10;simp[DN] at x10;rw[jw.out] at x10;have hcr:=TF.cap;have aa2:=TF.mx;have hJs:J≤0+aj x.ps:=by
   have h1:J≤aG x:=by omega
   unfold aG at h1;omega
  have hvp:=C6 x.ps 0 fr J hok.ps (Nat.zero_le _) hfJ hJs;have hcs:=TB x.ps 0 fr J (Nat.zero_le _) hJs;have hvA:gY (x.sn:Nat) true (decide (J=aG x)) (fr:Nat) (aS x.ps 0 fr J x.ps.length)=true:=
   (sF _ _ _ _ _).2 ⟨by omega,by have:=hok.sn;omega,(nT _).2 hvp,fun _=>by rw[hcs];omega,fun e=>by cases e⟩
  have Md:=SB;have hlr:rest.length≤1000:=by have:=jw.out;omega
  have al8:=hO4.blk.lt;have JC:=ah hO4;have MG:=ah SB;have xB:=ah hk4;have yV:=ah hbb;have UQ:=ah hpo;have TG:=ah TF;have KE:=ah hvA;clear hO4 SB hk4 hbb hpo TF hvA hcs hvp hb2 Md;by_cases hJ2:J=e0+1
  ·have dJ2:((J:Int)==(e0:Int)+1)=true:=by simp;omega
   rw[if_pos hJ2] at hRe;have OW:=ah hRe;have HJ2:=ah hJ2;have HJS:=ah hJs;clear hRe hJ2 hJs;by_cases hc1:cr=1
   ·have hr0:rest= []:=List.eq_nil_of_length_eq_zero (by omega);have HR0:=ah hr0;clear hr0;have Qa:=wT (some ar) rest.length 0 rest wc (by have:=TG.out.tail;rw[if_pos hc1,hc1] at this;exact this) (by omega);have Xu:=ah Qa;clear Qa;go_wp2_with fail;refine Xu.out.mono ?_;rintro e5 w5 ⟨v5,rfl,hv5,hb5⟩;obtain ⟨F',A5,c5,rfl,KZ,K5,lg,zU,qX⟩:=mE MG.out xB.out HX.out HP.out JC.out yV.out UQ.out hb5 hv5 (aN);have Xv:=(hb5.cell (p:=⟨p,10,none⟩) JC.out.blk.lt).trans x10;have Xw:=(hb5.frozen (p:=⟨p,10,none⟩) JC.out.blk.lt).trans f10;obtain ⟨vl,hps⟩:=qX.JQ zl.out;have hfi:=jq KZ HB.out.held (by show (st.out.set i _).length≤512;rw[List.length_set];exact hw) hf x.sn false true (decide (J=aG x)) fr (bZ x.ps x.s 0 fr x.ps.length) (ed x.ps x.e 0 J x.ps.length) Ac (aS x.ps 0 fr J x.ps.length).length cc vl _ hps KE.out (by omega) false;unfold bH at hfi;have GQ:=ah hfi;obtain ⟨t0,t1,t2,t3,t4,t5,t6,t7⟩:=zU.eight;have tF:=ah lg;have Rj:=ah K5;clear KZ K5 lg zU qX hps hfi hv5;go_upto_region 18 with (fail)
    generalize w5.setCell ⟨p,10,none⟩ (.slice A5 rest.length c5)=w6 at*;clear Xv Xw;go_wp2_with fail;refine GQ.out.mono ?_;rintro e7 w7 ⟨v7,rfl,hv7,K6⟩;go_wp2;go_ret;rw[←OW.out];exact ⟨v7,rfl,aU hv7 tF.out.size,kX.step tF.out (bW.refl _ _) Rj.out K6⟩
   ·have Qa:=wT _ _ _ rest wc (TG.out.Vh hc1) (by omega);have Xu:=ah Qa;clear Qa;go_wp2_with fail;refine Xu.out.mono ?_;rintro e5 w5 ⟨v5,rfl,hv5,hb5⟩;obtain ⟨F',A5,c5,rfl,KZ,K5,lg,zU,qX⟩:=mE MG.out xB.out HX.out HP.out JC.out yV.out UQ.out hb5 hv5 (aN);have Xv:=(hb5.cell (p:=⟨p,10,none⟩) JC.out.blk.lt).trans x10;have Xw:=(hb5.frozen (p:=⟨p,10,none⟩) JC.out.blk.lt).trans f10;obtain ⟨vl,hps⟩:=qX.JQ zl.out;have hfi:=jq KZ HB.out.held (by show (st.out.set i _).length≤512;rw[List.length_set];exact hw) hf x.sn false true (decide (J=aG x)) fr (bZ x.ps x.s 0 fr x.ps.length) (ed x.ps x.e 0 J x.ps.length) Ac (aS x.ps 0 fr J x.ps.length).length cc vl _ hps KE.out (by omega) false;unfold bH at hfi;have GQ:=ah hfi;obtain ⟨t0,t1,t2,t3,t4,t5,t6,t7⟩:=zU.eight;have tF:=ah lg;have Rj:=ah K5;clear KZ K5 lg zU qX hps hfi hv5;go_upto_region 18 with (fail)
    generalize w5.setCell ⟨p,10,none⟩ (.slice A5 rest.length c5)=w6 at*;clear Xv Xw;go_wp2_with fail;refine GQ.out.mono ?_;rintro e7 w7 ⟨v7,rfl,hv7,K6⟩;go_wp2;go_ret;rw[←OW.out];exact ⟨v7,rfl,aU hv7 tF.out.size,kX.step tF.out (bW.refl _ _) Rj.out K6⟩
  ·have dJ2:((J:Int)==(e0:Int)+1)=false:=by simp;omega
   rw[if_neg hJ2] at hRe;have OW:=ah hRe;have HJ2:=ah hJ2;have HJS:=ah hJs;clear hRe hJ2 hJs;by_cases hc1:cr=1
   ·have hr0:rest= []:=List.eq_nil_of_length_eq_zero (by omega);have HR0:=ah hr0;have HT1:dG wc (some ar) rest.length 0 rest:=by have:=TG.out.tail;rw[if_pos hc1,hc1] at this;exact this
    clear hr0;have hW:=(au.new (wc.alloc (.cells #[.int .i64 (J:Nat),.int .i64 (e0:Nat)] 39)) 150 #[.slice (some ⟨wc.heap.size,0,none⟩) 1 1,.slice (some ar) rest.length 0]);rw[World.size_alloc] at hW;have hTW:CO ((wc.alloc (.cells #[.int .i64 (J:Nat),.int .i64 (e0:Nat)] 39)).alloc (.cells #[.slice (some ⟨wc.heap.size,0,none⟩) 1 1,.slice (some ar) rest.length 0] 150)) (wc.heap.size+1) (some ⟨wc.heap.size,0,none⟩) (some ar) 1 1 rest.length (0) [(J,e0)] rest:=
     ⟨hW,(dG.new wc 39 J e0).alloc _,((HT1).alloc _).alloc _⟩
    have hcon:=uI (wc.heap.size+1) _ _ 1 1 rest.length (0) [(J,e0)] rest _ hTW (by omega) (by omega);have Xx:=ah hcon;clear hW hTW hcon;go_wp2_with fail;refine Xx.out.mono ?_;rintro e5 w5 ⟨v5,rfl,hv5,Qb⟩;have hb5:Below wc.heap.size wc w5:=(((Below.refl _ wc).alloc (aN) _).alloc (by simp) _).trans (Qb.mono (by simp;omega));have hv5:w5.ownsRow ((wc.alloc (.cells #[.int .i64 (J:Nat),.int .i64 (e0:Nat)] 39)).alloc (.cells #[.slice (some ⟨wc.heap.size,0,none⟩) 1 1,.slice (some ar) rest.length 0] 150)).heap.size 39 2 v5 ((J,e0)::rest).length (mR ((J,e0)::rest)):=hv5;clear Qb;obtain ⟨F',A5,c5,rfl,KZ,K5,lg,zU,qX⟩:=mE MG.out xB.out HX.out HP.out JC.out yV.out UQ.out hb5 hv5 (by simp;omega);have Xv:=(hb5.cell (p:=⟨p,10,none⟩) JC.out.blk.lt).trans x10;have Xw:=(hb5.frozen (p:=⟨p,10,none⟩) JC.out.blk.lt).trans f10;obtain ⟨vl,hps⟩:=qX.JQ zl.out;have hfi:=jq KZ HB.out.held (by show (st.out.set i _).length≤512;rw[List.length_set];exact hw) hf x.sn false true (decide (J=aG x)) fr (bZ x.ps x.s 0 fr x.ps.length) (ed x.ps x.e 0 J x.ps.length) Ac (aS x.ps 0 fr J x.ps.length).length cc vl _ hps KE.out (by omega) false;unfold bH at hfi;have GQ:=ah hfi;obtain ⟨t0,t1,t2,t3,t4,t5,t6,t7⟩:=zU.eight;have tF:=ah lg;have Rj:=ah K5;clear KZ K5 lg zU qX hps hfi hv5;go_upto_region 18 with (fail)
    generalize w5.setCell ⟨p,10,none⟩ (.slice A5 ((J,e0)::rest).length c5)=w6 at*;clear Xv Xw;go_wp2_with fail;refine GQ.out.mono ?_;rintro e7 w7 ⟨v7,rfl,hv7,K6⟩;go_wp2;go_ret;rw[←OW.out];exact ⟨v7,rfl,aU hv7 tF.out.size,kX.step tF.out (bW.refl _ _) Rj.out K6⟩
   ·have hW:=(au.new (wc.alloc (.cells #[.int .i64 (J:Nat),.int .i64 (e0:Nat)] 39)) 150 #[.slice (some ⟨wc.heap.size,0,none⟩) 1 1,.slice (some ⟨ar.block,ar.off+2,none⟩) rest.length (cr-1)]);rw[World.size_alloc] at hW;have hTW:CO ((wc.alloc (.cells #[.int .i64 (J:Nat),.int .i64 (e0:Nat)] 39)).alloc (.cells #[.slice (some ⟨wc.heap.size,0,none⟩) 1 1,.slice (some ⟨ar.block,ar.off+2,none⟩) rest.length (cr-1)] 150)) (wc.heap.size+1) (some ⟨wc.heap.size,0,none⟩) (some ⟨ar.block,ar.off+2,none⟩) 1 1 rest.length (cr-1) [(J,e0)] rest:=
     ⟨hW,(dG.new wc 39 J e0).alloc _,((TG.out.Vh hc1).alloc _).alloc _⟩
    have hcon:=uI (wc.heap.size+1) _ _ 1 1 rest.length (cr-1) [(J,e0)] rest _ hTW (by omega) (by omega);have Xx:=ah hcon;clear hW hTW hcon;go_wp2_with fail;refine Xx.out.mono ?_;rintro e5 w5 ⟨v5,rfl,hv5,Qb⟩;have hb5:Below wc.heap.size wc w5:=(((Below.refl _ wc).alloc (aN) _).alloc (by simp) _).trans (Qb.mono (by simp;omega));have hv5:w5.ownsRow ((wc.alloc (.cells #[.int .i64 (J:Nat),.int .i64 (e0:Nat)] 39)).alloc (.cells #[.slice (some ⟨wc.heap.size,0,none⟩) 1 1,.slice (some ⟨ar.block,ar.off+2,none⟩) rest.length (cr-1)] 150)).heap.size 39 2 v5 ((J,e0)::rest).length (mR ((J,e0)::rest)):=hv5;clear Qb;obtain ⟨F',A5,c5,rfl,KZ,K5,lg,zU,qX⟩:=mE MG.out xB.out HX.out HP.out JC.out yV.out UQ.out hb5 hv5 (by simp;omega);have Xv:=(hb5.cell (p:=⟨p,10,none⟩) JC.out.blk.lt).trans x10;have Xw:=(hb5.frozen (p:=⟨p,10,none⟩) JC.out.blk.lt).trans f10;obtain ⟨vl,hps⟩:=qX.JQ zl.out;have hfi:=jq KZ HB.out.held (by show (st.out.set i _).length≤512;rw[List.length_set];exact hw) hf x.sn false true (decide (J=aG x)) fr (bZ x.ps x.s 0 fr x.ps.length) (ed x.ps x.e 0 J x.ps.length) Ac (aS x.ps 0 fr J x.ps.length).length cc vl _ hps KE.out (by omega) false;unfold bH at hfi;have GQ:=ah hfi;obtain ⟨t0,t1,t2,t3,t4,t5,t6,t7⟩:=zU.eight;have tF:=ah lg;have Rj:=ah K5;clear KZ K5 lg zU qX hps hfi hv5;go_upto_region 18 with (fail)
    generalize w5.setCell ⟨p,10,none⟩ (.slice A5 ((J,e0)::rest).length c5)=w6 at*;clear Xv Xw;go_wp2_with fail;refine GQ.out.mono ?_;rintro e7 w7 ⟨v7,rfl,hv7,K6⟩;go_wp2;go_ret;rw[←OW.out];exact ⟨v7,rfl,aU hv7 tF.out.size,kX.step tF.out (bW.refl _ _) Rj.out K6⟩
end
end
end Go.Proofs.YtbhiklnljiehiaaGreat
