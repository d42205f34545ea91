/- amsend: again. -/
import Derived.Test.YtbhiklnljiehiaaGreatM1ar
import Derived.Test.YtbhiklnljiehiaaGreatM1as
namespace Go.Proofs.YtbhiklnljiehiaaGreat
section
open Go.RowKit Go.Shelf
attribute [local go_sem] Oper.semAt_some
def IU:Option Pu→List UInt8
 |none=> []
 |some p=>oD p.sn p.poll p.seg p.last p.off p.s p.e p.ps
theorem mh {x:Ou} (h:zn x):gW (x.sn:Nat) false false 0 x.ps=true:=by
 have h1:=h.sn;have h2:=(kT x.ps).2 h.ps;simp[gW,oz,h2];omega
section
variable {D F:Nat→Prop} {g:Nat} {c:Cf} {st:Sd} {vq vo:Value} {vs os:List Value} {w:World}
theorem eH.two {ar:Addr} {n cr:Nat} {r:Nat × Nat} {t:List (Nat × Nat)} (h:eH w (some ar) n cr (r::t)):w.cell? ar=some (.int .i64 (r.1:Nat))∧w.cell? ⟨ar.block,ar.off+1,none⟩=some (.int .i64 (r.2:Nat)):=by
 have hl:=h.len;simp at hl;obtain ⟨zR,e,hb,hc⟩:=h.at_ (by omega);cases e;have:=hc 0 r rfl;simpa[Addr.add] using this
theorem iH.KO {p:Nat} {x:Ou} {Ap Ar:Option Addr} {cp cr:Nat} {vp:List Value} {w':World} (h:iH w D F p x Ap cp vp Ar cr) (hF:∀k,F k→k<w.heap.size) (hk:Kept (fun k _=>D k) w w'):jd w' w'.heap.size Ap x.ps.length cp vp x.ps:=by
 have nd:∀{A:Option Addr},Fh F D A→∀ad,A=some ad→w'.heap[ad.block]? =w.heap[ad.block]? :=fun hi ad e=>by
  have hlt:=hF _ (hi ad e).1;have h1:w.heap[ad.block]? =some w.heap[ad.block]:=Array.getElem?_eq_getElem hlt;rw[h1];exact hk.same _ _ h1 (hi ad e).2
 exact h.ps.stay (nd h.pf) (fun i v ad hv e=>nd (h.pe i v hv) ad e)
theorem bM.KO {base:Nat} {A:Option Addr} {cc:Nat} {ps:List (List UInt8)} (h:bM w base (.slice A ps.length cc) ps) (hD:∀k,D k→k<base):∃vl,∀w',Kept (fun k _=>D k) w w'→jd w' w'.heap.size A ps.length cc vl ps:=by
 obtain ⟨vl,h1,h2⟩:=h;refine ⟨vl,fun w' hk=>⟨fC (j3 h1 hk fun k o hr hb hd=> ?_),rfl,fun i q hi=> ?_⟩⟩
 ·have:=(h1.lt k hb).1;have:=hD k hd;omega
 ·obtain ⟨A',c',e,ho⟩:=h2 i q hi;exact ⟨A',c',e,fC (j3 ho hk fun k o hr hb hd=>by
   have:=(ho.lt k hb).1;have:=hD k hd;omega)⟩
def qz (w0:World) (x:Ou) (fr j:Nat) (wr:World):Prop:=
 Below w0.heap.size w0 wr∧((j=fr∧au wr w0.heap.size 148 (bP 0 false false false 0 false false none 0 0))∨
  (fr<j∧∃A cc,au wr w0.heap.size 148 (bP (x.sn:Nat) false true (decide (j=aC x)) (fr:Nat) (aZ x.ps x.s 0 fr x.ps.length) (cu x.ps x.e 0 j x.ps.length) A (aP x.ps 0 fr j x.ps.length).length cc)∧
   bM wr w0.heap.size (.slice A (aP x.ps 0 fr j x.ps.length).length cc) (aP x.ps 0 fr j x.ps.length)))
theorem bM.Cb {base:Nat} {v:Value} {ps:List (List UInt8)} {w':World} (h:bM w base v ps) (hb:Below w.heap.size w w'):bM w' base v ps:=by
 obtain ⟨vl,h1,h2⟩:=h;exact ⟨vl,own_below h1 hb (aN),fun i q hi=>let ⟨A,c,e,ho⟩:=h2 i q hi;⟨A,c,e,own_below ho hb (aN)⟩⟩
theorem qz.below {w0 wr w':World} {x:Ou} {fr j:Nat} (h:qz w0 x fr j wr) (hb:Below wr.heap.size wr w'):qz w0 x fr j w':=by
 obtain ⟨h1,h2⟩:=h;refine ⟨h1.trans (hb.mono h1.size),?_⟩;rcases h2 with ⟨e,k⟩|⟨e,A,cc,k1,k2⟩
 ·exact .inl ⟨e,k.below hb k.lt⟩
 ·exact .inr ⟨e,A,cc,k1.below hb k1.lt,k2.Cb hb⟩
theorem qz.put {w0 wr w3:World} {x:Ou} {fr j m:Nat} {A:Option Addr} {cc:Nat} (h:qz w0 x fr j wr) (hb:Below wr.heap.size wr w3) (hm:fr<m)
 (hp:bM w3 w0.heap.size (.slice A (aP x.ps 0 fr m x.ps.length).length cc) (aP x.ps 0 fr m x.ps.length)):
 qz w0 x fr m ((((((((w3.setCell ⟨w0.heap.size,0,none⟩ (.int .i64 (x.sn:Nat))).setCell ⟨w0.heap.size,1,none⟩ (.bool false)).setCell ⟨w0.heap.size,2,none⟩ (.bool true)).setCell ⟨w0.heap.size,3,none⟩ (.bool (decide (m=aC x)))).setCell ⟨w0.heap.size,4,none⟩ (.int .i64 (fr:Nat))).setCell ⟨w0.heap.size,5,none⟩ (.bool (aZ x.ps x.s 0 fr x.ps.length))).setCell ⟨w0.heap.size,6,none⟩ (.bool (cu x.ps x.e 0 m x.ps.length))).setCell ⟨w0.heap.size,7,none⟩ (.slice A (aP x.ps 0 fr m x.ps.length).length cc)):=by
 have h3:=h.below hb;obtain ⟨u0,u1,u2,u3,u4,u5,u6,u7,hbk⟩:∃u0 u1 u2 u3 u4 u5 u6 u7,au w3 w0.heap.size 148 #[u0,u1,u2,u3,u4,u5,u6,u7]:=by
  rcases h3.2 with ⟨e,k⟩|⟨e,A,cc,k1,k2⟩
  ·exact ⟨_,_,_,_,_,_,_,_,k⟩
  ·exact ⟨_,_,_,_,_,_,_,_,k1⟩
 have k0:=hp.store (i:=0) hbk (by decide) (by decide) (.int .i64 (x.sn:Nat));have k1:=k0.store (i:=1) (hbk.av 0 _) (by decide) (by decide) (.bool false);have k2:=k1.store (i:=2) ((hbk.av 0 _).av 1 _) (by decide) (by decide) (.bool true);have k3:=k2.store (i:=3) (((hbk.av 0 _).av 1 _).av 2 _) (by decide) (by decide) (.bool (decide (m=aC x)));have k4:=k3.store (i:=4) ((((hbk.av 0 _).av 1 _).av 2 _).av 3 _) (by decide) (by decide) (.int .i64 (fr:Nat));have k5:=k4.store (i:=5) (((((hbk.av 0 _).av 1 _).av 2 _).av 3 _).av 4 _) (by decide) (by decide) (.bool (aZ x.ps x.s 0 fr x.ps.length));have k6:=k5.store (i:=6) ((((((hbk.av 0 _).av 1 _).av 2 _).av 3 _).av 4 _).av 5 _) (by decide) (by decide) (.bool (cu x.ps x.e 0 m x.ps.length));have k7:=k6.store (i:=7) (((((((hbk.av 0 _).av 1 _).av 2 _).av 3 _).av 4 _).av 5 _).av 6 _) (by decide) (by decide) (.slice A (aP x.ps 0 fr m x.ps.length).length cc);exact ⟨qh h3.1 (aN) _ _ _ _ _ _ _ _,.inr ⟨hm,A,cc,hbk.O6 _ _ _ _ _ _ _ _,k7⟩⟩
theorem nW {w0 wc w5:World} {i p bb base:Nat} {x:Ou} {Ap Ar Ac:Option Addr} {cp cr cc:Nat} {vp:List Value} {l:List (Nat × Nat)} {v5:Value} {sn fr:Nat} {la s e:Bool} {CP:List (List UInt8)}
 (hA:eZ wc D F g c st vq vs vo os) (hk:Kept (fun k _=>D k) w0 wc) (hx:st.out[i]? =some x) (hp:os[i]? =some (.pointer (some ⟨p,0,none⟩))) (hO:iH wc D F p x Ap cp vp Ar cr)
 (hbb:au wc bb 148 (bP (sn:Nat) false true la (fr:Nat) s e Ac CP.length cc)) (hpo:bM wc bb (.slice Ac CP.length cc) CP)
 (hb5:Below wc.heap.size wc w5) (hv5:w5.ownsRow base 39 2 v5 l.length (pE l)) (hbase:wc.heap.size≤base):
 ∃F' A5 c5,v5= .slice A5 l.length c5∧eZ (w5.setCell ⟨p,10,none⟩ (.slice A5 l.length c5)) D F' g c (gQ st i x l) vq vs vo os∧dm w0 F F'∧Kept (fun k _=>D k) w0 (w5.setCell ⟨p,10,none⟩ (.slice A5 l.length c5))∧
  au (w5.setCell ⟨p,10,none⟩ (.slice A5 l.length c5)) bb 148 (bP (sn:Nat) false true la (fr:Nat) s e Ac CP.length cc)∧bM (w5.setCell ⟨p,10,none⟩ (.slice A5 l.length c5)) bb (.slice Ac CP.length cc) CP:=by
 obtain ⟨A5,c5,rfl,hsp,MX⟩:=eH.dH hv5;have hz:=hk.size;have h5:=(hA.below hb5).Ik (F':=fun k=>F k∨∃ad,A5=some ad∧k=ad.block) (fun _=> .inl) (fun k hk=>by
  rcases hk with hk|⟨ad,e,rfl⟩
  ·exact (hA.below hb5).lt k hk
  ·exact (MX ad e).2)
 have Gz:=(hO.stay (w':=w5) fun k hk=>hb5.block k (hA.lt k hk)).Ik (F':=fun k=>F k∨∃ad,A5=some ad∧k=ad.block) (fun _=> .inl);obtain ⟨h6,JE⟩:=h5.Ks hx hp Gz 10 (.slice A5 l.length c5) (z:= {x with pend:=l}) (LQ:=A5) (M5:=c5) rfl rfl hsp (fun ad e=>⟨.inr ⟨ad,e,rfl⟩,fun hd=>by
  have h1:=(MX ad e).1;have h2:=hA.lt _ (hA.sub _ hd);omega⟩)
 have hk5:Kept (fun k _=>D k) w0 w5:=hk.trans ((Kept.of_below hb5).gH fun k o ho hm=>by have:=lt_of_heap ho;omega);refine ⟨_,A5,c5,rfl,h6,fun k hk'=> ?_,hk5.setCell (p:=⟨p,10,none⟩) (fun _ _=>hO.d) _,(hbb.below hb5 hbb.lt).far (p:=⟨p,10,none⟩) (hbb.off hO.blk (by decide)) _,(hpo.Cb hb5).store Gz.blk (by decide) (by decide) _⟩;rcases hk' with hk'|⟨ad,e,rfl⟩
 ·exact .inl hk'
 ·have:=(MX ad e).1;exact .inr (by omega)
theorem eH.VO {ar:Addr} {n cr:Nat} {r:Nat × Nat} {l:List (Nat × Nat)} (h:eH w (some ar) (n+1) cr (r::l)) (hc:¬cr=1):eH w (some ⟨ar.block,ar.off+2,none⟩) n (cr-1) l:=by
 have:=h.tail;rw[if_neg hc] at this;simpa[Addr.add] using this
set_option maxRecDepth 100000 in
set_option maxHeartbeats 4000000 in
theorem KP (h:eZ w D F g c st vq vs vo os) {K:Nat} (hB:jW st K) (hw:st.out.length≤512) (hf:st.first<1024) {i p:Nat} {x:Ou} {Ap Ar:Option Addr} {cp cr:Nat} {vp:List Value} (hx:st.out[i]? =some x) (hp:os[i]? =some (.pointer (some ⟨p,0,none⟩))) (hO:iH w D F p x Ap cp vp Ar cr) (hpe:x.pend≠ [])
 (n:Int) (hn:0≤n) (hn2:n≤9223372036854775807):
 Calls Tryz.prog 85 #[.pointer (some ⟨g,0,none⟩),.pointer (some ⟨p,0,none⟩),.int .i64 n] w (FW w D F g c (fQ c n st i x).1 (IU (fQ c n st i x).2)):=by
 obtain ⟨⟨fr,e0⟩,rest,Oq⟩:=List.exists_cons_of_ne_nil hpe;have hok:=hB.ou x (List.mem_of_getElem? hx);have hsz:=jP hok;have hr:=hok.pr (fr,e0) (by rw[Oq];simp);have hpl:=hok.pl;dsimp only at hr;obtain ⟨R,hR⟩:∃R,fQ c n st i x=R:=⟨_,rfl⟩
 rw[hR];have HR:=ah hR;obtain ⟨x0,x7,x8,x9,x10,xO⟩:=hO.cells;have hrs:=hO.rs;have hlen:x.pend.length=rest.length+1:=by rw[Oq];rfl
 rw[hlen] at x10 hrs;rw[Oq] at hrs;obtain ⟨ar,har,_,_⟩:=hrs.at_ (by omega);subst har;obtain ⟨s0,s1⟩:=hrs.two;dsimp only at s0 s1;have hcr:=hrs.cap;have ab6:=hrs.mx;have hpc:=hO.ps.sl.cap;have hpm:=hO.ps.sl.mx;have HH:=ah h;have HX:=ah hx;have HP:=ah hp;have HO:=ah hO;have HPD:=ah Oq;have HRS:=ah hrs;have HB:=ah hB;clear h hx hp hO Oq hrs hB hR hlen hpe;go_enter Tryz.func85,Tryz.ntmps85;go_wp2
 go_quiet (fail)
 go_wp2_with fail;have hA1:=HH.out.drewN nq;have Nq:=HO.out.drewN nq;have ab7:=HRS.out.drewN nq;have hk1:Kept (fun k _=>D k) w (w.drewN nq):=(Kept.refl _ w).iU nq;clear s0 s1 x0 x7 x8 x9 x10 xO;generalize w.drewN nq=w1 at*;obtain ⟨x0,x7,x8,x9,x10,xO⟩:=Nq.cells;obtain ⟨x1,x2,x3,x4,x5,x6⟩:=(show w1.cell? ⟨p,1,none⟩=some (.bool false)∧w1.cell? ⟨p,2,none⟩=some (.bool false)∧w1.cell? ⟨p,3,none⟩=some (.bool false)∧w1.cell? ⟨p,4,none⟩=some (.int .i64 0)∧w1.cell? ⟨p,5,none⟩=some (.bool x.s)∧w1.cell? ⟨p,6,none⟩=some (.bool x.e) from
  ⟨Nq.blk.cell 1,Nq.blk.cell 2,Nq.blk.cell 3,Nq.blk.cell 4,Nq.blk.cell 5,Nq.blk.cell 6⟩)
 have f10:=Nq.blk.frozen 10;have hlen:x.pend.length=rest.length+1:=by rw[HPD.out];rfl
 rw[hlen] at x10;have HA1:=ah hA1;have HO1:=ah Nq;have agV:=ah ab7;have wL:=ah hk1;have jF:=ah hlen;clear hA1 Nq ab7 hk1 hlen HH HO HRS hcr ab6;have aj7:x.ps.length≤64:=hok.ps.hi;have hhd:=fun (W:World)=>rQ (x.ps.length:Int) false W ⟨by omega,by omega⟩
 have hhb:=zO (x.ps.length:Int);simp only[BU] at hhd;generalize hhh:iT (x.ps.length:Int)=hd at*;have VL:=ah hhd;have HHH:=ah hhh;have hsum:IntKind.i64.wrap (hd+(aC x:Nat))=hd+(aC x:Nat):=IntWalk.i64_in _ (by omega);clear hhd hhh;obtain ⟨b1,hb1⟩:∃b1,b1=decide (fr=0∧e0+1=aC x∧hd+(aC x:Int)≤n):=⟨_,rfl⟩
 have HB1:=ah hb1;clear hb1;go_cut [55] (fun s55 wx=>s55= .bool b1∧∃q,wx=w1.drewN q)
 case first=>
  have hb:=HB1.out;by_cases h1:fr=0
  ·have d1:((fr:Int)==0)=true:=by simp;omega
   by_cases h2:e0+1=aC x
   ·have d2:((e0:Int)+1==(aC x:Int))=true:=by simp;omega
    by_cases h3:hd+(aC x:Int)≤n
    ·have d3:decide (hd+(aC x:Int)≤n)=true:=decide_eq_true h3;have e1:b1=true:=by rw[hb];exact decide_eq_true ⟨h1,h2,h3⟩
     subst e1;have H1:=ah h1;have H2:=ah h2;clear h1 h2 hb;go_wp2
     go_quiet ((go_at_call 127;exact Calls.quiet_of_same ((VL.out _).mono fun _ _ hh=>⟨hh.1,hh.2.symm⟩)))
     go_wp2;go_meet;exact ⟨rfl,_,rfl⟩
    ·have d3:decide (hd+(aC x:Int)≤n)=false:=decide_eq_false h3;have e1:b1=false:=by rw[hb];exact decide_eq_false (by omega)
     subst e1;have H1:=ah h1;have H2:=ah h2;clear h1 h2 hb;go_wp2
     go_quiet ((go_at_call 127;exact Calls.quiet_of_same ((VL.out _).mono fun _ _ hh=>⟨hh.1,hh.2.symm⟩)))
     go_wp2;go_meet;exact ⟨rfl,_,rfl⟩
   ·have d2:((e0:Int)+1==(aC x:Int))=false:=by simp;omega
    have e1:b1=false:=by rw[hb];exact decide_eq_false (by omega)
    subst e1;have H1:=ah h1;clear h1 hb;go_wp2
    go_quiet (fail)
    go_wp2;go_meet;exact ⟨rfl,_,rfl⟩
  ·have d1:((fr:Int)==0)=false:=by simp;omega
   have e1:b1=false:=by rw[hb];exact decide_eq_false (by omega)
   subst e1;clear hb;go_wp2
   go_quiet (fail)
   go_wp2;go_meet;exact ⟨rfl,_,rfl⟩
 case rest=>
 obtain ⟨rfl,q,rfl⟩:=hcut;have hA2:=HA1.out.drewN q;have hO2:=HO1.out.drewN q;have Ya:=agV.out.drewN q;have hk2:=wL.out.iU q;clear x0 x1 x2 x3 x4 x5 x6 x7 x8 x9 x10 xO f10;generalize w1.drewN q=w2 at*;have HA2:=ah hA2;have R9:=ah hO2;have agW:=ah Ya;have Ak:=ah hk2;have hgl:w.heap.size≤w2.heap.size:=hk2.size;have hdl:∀k,D k→k<w2.heap.size:=fun k hd=>hA2.lt k (hA2.sub k hd)
 have AY:=ah hdl;by_cases hcond:fr=0∧e0+1=aC x∧hd+(aC x:Int)≤n
 ·have e1:b1=true:=by rw[HB1.out];exact decide_eq_true hcond
  subst e1;have hRe:R=((bK c (gQ st i x []) false).1,some ⟨x.sn,(bK c (gQ st i x []) false).2,false,false,0,x.s,x.e,x.ps⟩):=by
   rw[←HR.out];unfold fQ;rw[HPD.out];dsimp only;rw[if_pos (by rw[HHH.out];exact hcond)]
  have Pd:=ah hRe;clear hRe HR hcond hdl;obtain ⟨hA3,hO3⟩:=hA2.Ks HX.out HP.out hO2 10 (.slice none 0 0) (z:= {x with pend:= []}) (LQ:=none) (M5:=0) rfl rfl (eH.nil _) (fun ad e=>by cases e);have hk3:=hk2.setCell (p:=⟨p,10,none⟩) (fun _ _=>hO2.d) (.slice none 0 0);have f10:=hO2.blk.frozen 10;have x10:=hO2.blk.cell 10;simp[Hg] at x10;clear hA2 hO2 Ya hk2;have hps:=fun w' hk=>hO3.KO (w':=w') hA3.lt hk
  have hB2:=HB.out;have hfi:Calls Tryz.prog 89 #[.pointer (some ⟨g,0,none⟩),.agg #[.int .i64 (x.sn:Nat),.bool false,.bool false,.bool false,.int .i64 0,.bool x.s,.bool x.e,.slice Ap x.ps.length cp],.bool false] (w2.setCell ⟨p,10,none⟩ (.slice none 0 0)) (FW (w2.setCell ⟨p,10,none⟩ (.slice none 0 0)) D F g c (bK c (gQ st i x []) false).1 (oD x.sn (bK c (gQ st i x []) false).2 false false 0 x.s x.e x.ps)):=
   jT hA3 hB2.held (by show (st.out.set i _).length≤512;rw[List.length_set];exact hw) hf x.sn false false false 0 x.s x.e Ap x.ps.length cp vp x.ps hps (mh hok) (by omega) false
  have IV:=ah hfi;obtain ⟨z0,z7,z8,z9,Qi,TX⟩:=hO3.cells;obtain ⟨z1,z2,z3,z4,z5,z6⟩:=(show (w2.setCell ⟨p,10,none⟩ (.slice none 0 0)).cell? ⟨p,1,none⟩=some (.bool false)∧(w2.setCell ⟨p,10,none⟩ (.slice none 0 0)).cell? ⟨p,2,none⟩=some (.bool false)∧(w2.setCell ⟨p,10,none⟩ (.slice none 0 0)).cell? ⟨p,3,none⟩=some (.bool false)∧(w2.setCell ⟨p,10,none⟩ (.slice none 0 0)).cell? ⟨p,4,none⟩=some (.int .i64 0)∧(w2.setCell ⟨p,10,none⟩ (.slice none 0 0)).cell? ⟨p,5,none⟩=some (.bool x.s)∧(w2.setCell ⟨p,10,none⟩ (.slice none 0 0)).cell? ⟨p,6,none⟩=some (.bool x.e) from
   ⟨hO3.blk.cell 1,hO3.blk.cell 2,hO3.blk.cell 3,hO3.blk.cell 4,hO3.blk.cell 5,hO3.blk.cell 6⟩)
  have nJ:=ah hk3;clear hA3 hO3 hps hfi hk3 z8 z9 Qi TX hB2;go_upto_region 4 with (fail)
  generalize w2.setCell ⟨p,10,none⟩ (.slice none 0 0)=w3 at*;go_wp2_with fail;refine IV.out.mono ?_;rintro e4 w4 ⟨v,rfl,hv,hO4⟩;go_wp2;go_ret;rw[Pd.out];have hz3:=nJ.out.size;exact ⟨v,rfl,aU hv hz3,mg.step nJ.out (dm.refl _ _) (dm.refl _ _) hO4⟩
 ·have e1:b1=false:=by rw[HB1.out];exact decide_eq_false hcond
  subst e1;clear hA2 hO2 Ya hk2
  go_upto_block 0 with (fail)
  obtain ⟨J,hJ⟩:∃J,J=qg (fP x fr n) (e0+1-fr) fr:=⟨_,rfl⟩
  have HJ:=ah hJ;have hJb:=su (fP x fr n) (e0+1-fr) fr;rw[←hJ] at hJb;clear hJ;have hbe:qz w2 x fr fr (w2.alloc (.cells (bP 0 false false false 0 false false none 0 0) 148)):=⟨(Below.refl _ _).alloc (aN) _,.inl ⟨rfl,au.new _ _ _⟩⟩;have JC:=ah hbe;unfold bP at JC;clear hbe;go_cut [10] (fun s10 wx=>s10= .int .i64 (J:Nat)∧qz w2 x fr J wx)
  case first=>
   go_wp2_with fail
   go_loopw [10,11] (fun s10 s11 wr=>∃j:Nat,fr≤j∧j≤e0+1∧s10= .int .i64 (j:Nat)∧s11= .int .i64 ((j:Int)+1)∧qz w2 x fr j wr∧J=qg (fP x fr n) (e0+1-j) j) (fun _ i _=>e0+2-(intOf i).toNat)
   case atStart=>exact ⟨fr,aN,by omega,rfl,rfl,JC.out,HJ.out⟩
   case round=>
    obtain ⟨j,hj1,hj2,rfl,rfl,tZ,hgo⟩:=hrel;have tV:=ah hgo;clear hgo;by_cases hlt:j<e0+1
    ·have hb2:=tZ.1;have hOr:=R9.out.stay (w':=wr) (fun k hk=>hb2.block k (HA2.out.lt k hk));have hm:j+1≤aC x:=by omega
     have hdec:(decide (j+1=0+aj x.ps)&&(false|| !false))=decide (j+1=aC x):=by simp only[Nat.zero_add,Bool.false_or,Bool.not_false,Bool.and_true];rfl
     have hsl:jd wr wr.heap.size Ap x.ps.length cp vp x.ps:=hOr.ps;have hct:Calls Tryz.prog 128 #[.agg #[.int .i64 (x.sn:Nat),.bool false,.bool false,.bool false,.int .i64 0,.bool x.s,.bool x.e,.slice Ap x.ps.length cp],.int .i64 (fr:Nat),.int .i64 ((j:Int)+1)] wr (GY wr (x.sn:Nat) (decide (j+1=aC x)) (fr:Nat) (aZ x.ps x.s 0 fr x.ps.length) (cu x.ps x.e 0 (j+1) x.ps.length) (aP x.ps 0 fr (j+1) x.ps.length)):=by
      have:=TB (x.sn:Nat) false false false 0 x.s x.e Ap x.ps.length cp vp x.ps fr (j+1) wr hsl (mh hok) (by omega) (Nat.zero_le _) (by omega) (by unfold aC at hm;omega);rw[hdec] at this;exact this
     have HCT:=ah hct;have hvp:=sK x.ps 0 fr (j+1) hok.ps (Nat.zero_le _) (by omega) (by unfold aC at hm;omega);have hvl:=hvp.lo;have hvh:=hvp.hi;have hsf:fP x fr n (j+1)=decide (iT ((aP x.ps 0 fr (j+1) x.ps.length).length:Int)+2+(((j+1:Nat):Int)-(fr:Int))≤n):=rfl;have hput:=fun w3 A cc=>tZ.put (w3:=w3) (m:=j+1) (A:=A) (cc:=cc)
     have agX:=ah hput;have Ez:=ah tZ;have HSF:=ah hsf;obtain ⟨x0,x7,x8,x9,x10,xO⟩:=hOr.cells;obtain ⟨x1,x2,x3,x4,x5,x6⟩:=(show wr.cell? ⟨p,1,none⟩=some (.bool false)∧wr.cell? ⟨p,2,none⟩=some (.bool false)∧wr.cell? ⟨p,3,none⟩=some (.bool false)∧wr.cell? ⟨p,4,none⟩=some (.int .i64 0)∧wr.cell? ⟨p,5,none⟩=some (.bool x.s)∧wr.cell? ⟨p,6,none⟩=some (.bool x.e) from
      ⟨hOr.blk.cell 1,hOr.blk.cell 2,hOr.blk.cell 3,hOr.blk.cell 4,hOr.blk.cell 5,hOr.blk.cell 6⟩)
     clear hct hvp hsf hput tZ hOr hsl hdec x8 x9 x10 xO;generalize aP x.ps 0 fr (j+1) x.ps.length=CP at*;generalize aZ x.ps x.s 0 fr x.ps.length=CS at*;generalize cu x.ps x.e 0 (j+1) x.ps.length=CE at*;generalize decide (j+1=aC x)=CL at*;go_wp2_with fail;refine HCT.out.mono ?_;rintro e3 w3 ⟨hb3,Ac,cc,rfl,hpo⟩;unfold bP;have hcc:CP.length≤cc∧cc≤9223372036854775807:=by
      obtain ⟨vl,h1,_⟩:=hpo;exact ⟨(fC h1).cap,(fC h1).mx⟩
     obtain ⟨anD,anE⟩:=hcc;have Yb:=fun (W:World)=>rQ (CP.length:Int) true W ⟨by omega,by omega⟩
     have anF:=zO (CP.length:Int);rw[Nl _ (by omega) (by omega)] at Yb;generalize D4:iT (CP.length:Int)=hd2 at*;have agY:=ah Yb;have HH2:=ah D4;have HB3:=ah hb3;have Vq:=ah hpo;clear Yb D4 hb3 hpo x0 x1 x2 x3 x4 x5 x6 x7;go_wp2_with fail;refine (agY.out _).mono ?_;rintro e4 w4 ⟨rfl,rfl⟩;by_cases hfit:hd2+2+(((j+1:Nat):Int)-(fr:Int))≤n
     ·have d1:decide (n<hd2+2+((j:Int)+1)-fr)=false:=decide_eq_false (by omega);have hbw:=Nat.le_trans Ez.out.1.size HB3.out.size;have hnx:=agX.out (w3.alloc (.cells #[.int .i64 (x.sn:Nat),.bool false,.bool true,.bool CL,.int .i64 (fr:Nat),.bool CS,.bool CE,.slice Ac CP.length cc] 148)) Ac cc (HB3.out.alloc HB3.out.size _) (by omega) ((Vq.out.yF Ez.out.1.size).Cb ((Below.refl _ _).alloc (aN) _));have El:=ah hnx;obtain ⟨u0,u1,u2,u3,u4,u5,u6,u7,hbk⟩:∃u0 u1 u2 u3 u4 u5 u6 u7,au w3 w2.heap.size 148 #[u0,u1,u2,u3,u4,u5,u6,u7]:=by
       have:=(Ez.out.below HB3.out).2;rcases this with ⟨e,k⟩|⟨e,A,cc,k1,k2⟩
       ·exact ⟨_,_,_,_,_,_,_,_,k⟩
       ·exact ⟨_,_,_,_,_,_,_,_,k1⟩
      have Dx:=hbk.alloc (.cells #[.int .i64 (x.sn:Nat),.bool false,.bool true,.bool CL,.int .i64 (fr:Nat),.bool CS,.bool CE,.slice Ac CP.length cc] 148);obtain ⟨y0,y1,y2,y3,y4,y5,y6,y7⟩:=Dx.eight;have g0:=Dx.frozen 0;have g1:=Dx.frozen 1;have g2:=Dx.frozen 2;have g3:=Dx.frozen 3;have g4:=Dx.frozen 4;have g5:=Dx.frozen 5;have g6:=Dx.frozen 6;have g7:=Dx.frozen 7;have ab8:J=qg (fP x fr n) (e0+1-(j+1)) (j+1):=by
       rw[tV.out,show e0+1-j=(e0+1-(j+1))+1 by omega,qg,HSF.out,if_pos (decide_eq_true hfit)]
      have agZ:=ah ab8;have hnb:=au.new w3 148 #[.int .i64 (x.sn:Nat),.bool false,.bool true,.bool CL,.int .i64 (fr:Nat),.bool CS,.bool CE,.slice Ac CP.length cc];obtain ⟨t0,t1,t2,t3,t4,t5,t6,t7⟩:=hnb.eight;clear hnx hbk Dx ab8 hnb hbw;go_upto_region 12 with (fail)
      generalize w3.alloc (.cells #[.int .i64 (x.sn:Nat),.bool false,.bool true,.bool CL,.int .i64 (fr:Nat),.bool CS,.bool CE,.slice Ac CP.length cc] 148)=w5 at*;go_wp2
      go_roundw
      case rel=>exact ⟨j+1,by omega,by omega,by go_num,by go_num,El.out,agZ.out⟩
      case measure=>simp[intOf];omega
     ·have d1:decide (n<hd2+2+((j:Int)+1)-fr)=true:=decide_eq_true (by omega);have hend:J=j:=by
       rw[tV.out,show e0+1-j=(e0+1-(j+1))+1 by omega,qg,HSF.out,if_neg (by simpa using hfit)]
      subst hend;go_wp2;go_meet;exact ⟨rfl,Ez.out.below (HB3.out.alloc HB3.out.size _)⟩
    ·have hend:J=j:=by
      have:=tV.out;rw[show e0+1-j=0 by omega] at this;exact this
     subst hend;have Ez:=ah tZ;clear tZ;go_wp2;go_meet;exact ⟨rfl,Ez.out⟩
  case rest=>
  obtain ⟨rfl,tZ⟩:=hcut;have hb2:=tZ.1;have TC:=HA2.out.below hb2;have hk4:Kept (fun k _=>D k) w wc:=Ak.out.trans ((Kept.of_below hb2).gH fun k o ho hm=>by have:=lt_of_heap ho;omega);have hRe:=HR.out;unfold fQ at hRe;rw[HPD.out] at hRe;dsimp only at hRe;rw[if_neg (by rw[HHH.out];exact hcond),←HJ.out] at hRe;by_cases Ui:J=fr
  ·rw[if_pos Ui] at hRe;have Pd:=ah hRe;have dJ:((J:Int)==(fr:Int))=true:=by simp;omega
   have HJ1:=ah Ui;have Ni:=ah TC;have CQ:=ah hk4;clear hRe Ui TC hk4 tZ hb2;go_wp2;go_ret;rw[←Pd.out];exact ⟨_,rfl,World.ownsRow_nil _ _ _ _,Ni.out.o CQ.out⟩
  rw[if_neg Ui] at hRe;have dJ:((J:Int)==(fr:Int))=false:=by simp;omega
  have hfJ:fr<J:=by omega
  obtain ⟨-,⟨hc1,_⟩|⟨_,Ac,cc,hbb,hpo⟩⟩:=tZ
  ·exact absurd hc1 Ui
  have hO4:=R9.out.stay (w':=wc) (fun k hk=>hb2.block k (HA2.out.lt k hk));have Uj:=agW.out.below hb2;have x10:=hO4.blk.cell 10;have f10:=hO4.blk.frozen 10;simp[Hg] at x10;rw[jF.out] at x10;have hcr:=Uj.cap;have ab6:=Uj.mx;have hJs:J≤0+aj x.ps:=by
   have h1:J≤aC x:=by omega
   unfold aC at h1;omega
  have hvp:=sK x.ps 0 fr J hok.ps (Nat.zero_le _) hfJ hJs;have hcs:=FZ x.ps 0 fr J (Nat.zero_le _) hJs;have hvA:gW (x.sn:Nat) true (decide (J=aC x)) (fr:Nat) (aP x.ps 0 fr J x.ps.length)=true:=
   (mP _ _ _ _ _).2 ⟨by omega,by have:=hok.sn;omega,(kT _).2 hvp,fun _=>by rw[hcs];omega,fun e=>by cases e⟩
  have MX:=TC;have hlr:rest.length≤1000:=by have:=jF.out;omega
  have anH:=hO4.blk.lt;have KB:=ah hO4;have Ni:=ah TC;have CQ:=ah hk4;have Jz:=ah hbb;have Vq:=ah hpo;have Uk:=ah Uj;have LB:=ah hvA;clear hO4 TC hk4 hbb hpo Uj hvA hcs hvp hb2 MX;by_cases hJ2:J=e0+1
  ·have dJ2:((J:Int)==(e0:Int)+1)=true:=by simp;omega
   rw[if_pos hJ2] at hRe;have Pd:=ah hRe;have HJ2:=ah hJ2;have HJS:=ah hJs;clear hRe hJ2 hJs;by_cases hc1:cr=1
   ·have hr0:rest= []:=List.eq_nil_of_length_eq_zero (by omega);have HR0:=ah hr0;clear hr0;have Qx:=yQ (some ar) rest.length 0 rest wc (by have:=Uk.out.tail;rw[if_pos hc1,hc1] at this;exact this) (by omega);have Yc:=ah Qx;clear Qx;go_wp2_with fail;refine Yc.out.mono ?_;rintro e5 w5 ⟨v5,rfl,hv5,hb5⟩;obtain ⟨F',A5,c5,rfl,L8,L9,nG,Cc,tq⟩:=nW Ni.out CQ.out HX.out HP.out KB.out Jz.out Vq.out hb5 hv5 (aN);have Yd:=(hb5.cell (p:=⟨p,10,none⟩) KB.out.blk.lt).trans x10;have Ye:=(hb5.frozen (p:=⟨p,10,none⟩) KB.out.blk.lt).trans f10;obtain ⟨vl,hps⟩:=tq.KO AY.out;have hfi:=jT L8 HB.out.held (by show (st.out.set i _).length≤512;rw[List.length_set];exact hw) hf x.sn false true (decide (J=aC x)) fr (aZ x.ps x.s 0 fr x.ps.length) (cu x.ps x.e 0 J x.ps.length) Ac (aP x.ps 0 fr J x.ps.length).length cc vl _ hps LB.out (by omega) false;unfold bP at hfi;have IV:=ah hfi;obtain ⟨t0,t1,t2,t3,t4,t5,t6,t7⟩:=Cc.eight;have vg:=ah nG;have Sb:=ah L9;clear L8 L9 nG Cc tq hps hfi hv5;go_upto_region 18 with (fail)
    generalize w5.setCell ⟨p,10,none⟩ (.slice A5 rest.length c5)=w6 at*;clear Yd Ye;go_wp2_with fail;refine IV.out.mono ?_;rintro e7 w7 ⟨v7,rfl,hv7,Ma⟩;go_wp2;go_ret;rw[←Pd.out];exact ⟨v7,rfl,aU hv7 vg.out.size,mg.step vg.out (dm.refl _ _) Sb.out Ma⟩
   ·have Qx:=yQ _ _ _ rest wc (Uk.out.VO hc1) (by omega);have Yc:=ah Qx;clear Qx;go_wp2_with fail;refine Yc.out.mono ?_;rintro e5 w5 ⟨v5,rfl,hv5,hb5⟩;obtain ⟨F',A5,c5,rfl,L8,L9,nG,Cc,tq⟩:=nW Ni.out CQ.out HX.out HP.out KB.out Jz.out Vq.out hb5 hv5 (aN);have Yd:=(hb5.cell (p:=⟨p,10,none⟩) KB.out.blk.lt).trans x10;have Ye:=(hb5.frozen (p:=⟨p,10,none⟩) KB.out.blk.lt).trans f10;obtain ⟨vl,hps⟩:=tq.KO AY.out;have hfi:=jT L8 HB.out.held (by show (st.out.set i _).length≤512;rw[List.length_set];exact hw) hf x.sn false true (decide (J=aC x)) fr (aZ x.ps x.s 0 fr x.ps.length) (cu x.ps x.e 0 J x.ps.length) Ac (aP x.ps 0 fr J x.ps.length).length cc vl _ hps LB.out (by omega) false;unfold bP at hfi;have IV:=ah hfi;obtain ⟨t0,t1,t2,t3,t4,t5,t6,t7⟩:=Cc.eight;have vg:=ah nG;have Sb:=ah L9;clear L8 L9 nG Cc tq hps hfi hv5;go_upto_region 18 with (fail)
    generalize w5.setCell ⟨p,10,none⟩ (.slice A5 rest.length c5)=w6 at*;clear Yd Ye;go_wp2_with fail;refine IV.out.mono ?_;rintro e7 w7 ⟨v7,rfl,hv7,Ma⟩;go_wp2;go_ret;rw[←Pd.out];exact ⟨v7,rfl,aU hv7 vg.out.size,mg.step vg.out (dm.refl _ _) Sb.out Ma⟩
  ·have dJ2:((J:Int)==(e0:Int)+1)=false:=by simp;omega
   rw[if_neg hJ2] at hRe;have Pd:=ah hRe;have HJ2:=ah hJ2;have HJS:=ah hJs;clear hRe hJ2 hJs;by_cases hc1:cr=1
   ·have hr0:rest= []:=List.eq_nil_of_length_eq_zero (by omega);have HR0:=ah hr0;have HT1:eH wc (some ar) rest.length 0 rest:=by have:=Uk.out.tail;rw[if_pos hc1,hc1] at this;exact this
    clear hr0;have hW:=(au.new (wc.alloc (.cells #[.int .i64 (J:Nat),.int .i64 (e0:Nat)] 39)) 150 #[.slice (some ⟨wc.heap.size,0,none⟩) 1 1,.slice (some ar) rest.length 0]);rw[World.size_alloc] at hW;have hTW:Ep ((wc.alloc (.cells #[.int .i64 (J:Nat),.int .i64 (e0:Nat)] 39)).alloc (.cells #[.slice (some ⟨wc.heap.size,0,none⟩) 1 1,.slice (some ar) rest.length 0] 150)) (wc.heap.size+1) (some ⟨wc.heap.size,0,none⟩) (some ar) 1 1 rest.length (0) [(J,e0)] rest:=
     ⟨hW,(eH.new wc 39 J e0).alloc _,((HT1).alloc _).alloc _⟩
    have hcon:=wE (wc.heap.size+1) _ _ 1 1 rest.length (0) [(J,e0)] rest _ hTW (by omega) (by omega);have Yf:=ah hcon;clear hW hTW hcon;go_wp2_with fail;refine Yf.out.mono ?_;rintro e5 w5 ⟨v5,rfl,hv5,Qy⟩;have hb5:Below wc.heap.size wc w5:=(((Below.refl _ wc).alloc (aN) _).alloc (by simp) _).trans (Qy.mono (by simp;omega));have hv5:w5.ownsRow ((wc.alloc (.cells #[.int .i64 (J:Nat),.int .i64 (e0:Nat)] 39)).alloc (.cells #[.slice (some ⟨wc.heap.size,0,none⟩) 1 1,.slice (some ar) rest.length 0] 150)).heap.size 39 2 v5 ((J,e0)::rest).length (pE ((J,e0)::rest)):=hv5;clear Qy;obtain ⟨F',A5,c5,rfl,L8,L9,nG,Cc,tq⟩:=nW Ni.out CQ.out HX.out HP.out KB.out Jz.out Vq.out hb5 hv5 (by simp;omega);have Yd:=(hb5.cell (p:=⟨p,10,none⟩) KB.out.blk.lt).trans x10;have Ye:=(hb5.frozen (p:=⟨p,10,none⟩) KB.out.blk.lt).trans f10;obtain ⟨vl,hps⟩:=tq.KO AY.out;have hfi:=jT L8 HB.out.held (by show (st.out.set i _).length≤512;rw[List.length_set];exact hw) hf x.sn false true (decide (J=aC x)) fr (aZ x.ps x.s 0 fr x.ps.length) (cu x.ps x.e 0 J x.ps.length) Ac (aP x.ps 0 fr J x.ps.length).length cc vl _ hps LB.out (by omega) false;unfold bP at hfi;have IV:=ah hfi;obtain ⟨t0,t1,t2,t3,t4,t5,t6,t7⟩:=Cc.eight;have vg:=ah nG;have Sb:=ah L9;clear L8 L9 nG Cc tq hps hfi hv5;go_upto_region 18 with (fail)
    generalize w5.setCell ⟨p,10,none⟩ (.slice A5 ((J,e0)::rest).length c5)=w6 at*;clear Yd Ye;go_wp2_with fail;refine IV.out.mono ?_;rintro e7 w7 ⟨v7,rfl,hv7,Ma⟩;go_wp2;go_ret;rw[←Pd.out];exact ⟨v7,rfl,aU hv7 vg.out.size,mg.step vg.out (dm.refl _ _) Sb.out Ma⟩
   ·have hW:=(au.new (wc.alloc (.cells #[.int .i64 (J:Nat),.int .i64 (e0:Nat)] 39)) 150 #[.slice (some ⟨wc.heap.size,0,none⟩) 1 1,.slice (some ⟨ar.block,ar.off+2,none⟩) rest.length (cr-1)]);rw[World.size_alloc] at hW;have hTW:Ep ((wc.alloc (.cells #[.int .i64 (J:Nat),.int .i64 (e0:Nat)] 39)).alloc (.cells #[.slice (some ⟨wc.heap.size,0,none⟩) 1 1,.slice (some ⟨ar.block,ar.off+2,none⟩) rest.length (cr-1)] 150)) (wc.heap.size+1) (some ⟨wc.heap.size,0,none⟩) (some ⟨ar.block,ar.off+2,none⟩) 1 1 rest.length (cr-1) [(J,e0)] rest:=
     ⟨hW,(eH.new wc 39 J e0).alloc _,((Uk.out.VO hc1).alloc _).alloc _⟩
    have hcon:=wE (wc.heap.size+1) _ _ 1 1 rest.length (cr-1) [(J,e0)] rest _ hTW (by omega) (by omega);have Yf:=ah hcon;clear hW hTW hcon;go_wp2_with fail;refine Yf.out.mono ?_;rintro e5 w5 ⟨v5,rfl,hv5,Qy⟩;have hb5:Below wc.heap.size wc w5:=(((Below.refl _ wc).alloc (aN) _).alloc (by simp) _).trans (Qy.mono (by simp;omega));have hv5:w5.ownsRow ((wc.alloc (.cells #[.int .i64 (J:Nat),.int .i64 (e0:Nat)] 39)).alloc (.cells #[.slice (some ⟨wc.heap.size,0,none⟩) 1 1,.slice (some ⟨ar.block,ar.off+2,none⟩) rest.length (cr-1)] 150)).heap.size 39 2 v5 ((J,e0)::rest).length (pE ((J,e0)::rest)):=hv5;clear Qy;obtain ⟨F',A5,c5,rfl,L8,L9,nG,Cc,tq⟩:=nW Ni.out CQ.out HX.out HP.out KB.out Jz.out Vq.out hb5 hv5 (by simp;omega);have Yd:=(hb5.cell (p:=⟨p,10,none⟩) KB.out.blk.lt).trans x10;have Ye:=(hb5.frozen (p:=⟨p,10,none⟩) KB.out.blk.lt).trans f10;obtain ⟨vl,hps⟩:=tq.KO AY.out;have hfi:=jT L8 HB.out.held (by show (st.out.set i _).length≤512;rw[List.length_set];exact hw) hf x.sn false true (decide (J=aC x)) fr (aZ x.ps x.s 0 fr x.ps.length) (cu x.ps x.e 0 J x.ps.length) Ac (aP x.ps 0 fr J x.ps.length).length cc vl _ hps LB.out (by omega) false;unfold bP at hfi;have IV:=ah hfi;obtain ⟨t0,t1,t2,t3,t4,t5,t6,t7⟩:=Cc.eight;have vg:=ah nG;have Sb:=ah L9;clear L8 L9 nG Cc tq hps hfi hv5;go_upto_region 18 with (fail)
    generalize w5.setCell ⟨p,10,none⟩ (.slice A5 ((J,e0)::rest).length c5)=w6 at*;clear Yd Ye;go_wp2_with fail;refine IV.out.mono ?_;rintro e7 w7 ⟨v7,rfl,hv7,Ma⟩;go_wp2;go_ret;rw[←Pd.out];exact ⟨v7,rfl,aU hv7 vg.out.size,mg.step vg.out (dm.refl _ _) Sb.out Ma⟩
end
end
end Go.Proofs.YtbhiklnljiehiaaGreat
