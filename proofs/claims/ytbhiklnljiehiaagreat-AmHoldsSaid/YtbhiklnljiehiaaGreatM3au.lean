/- amsend: again. -/
import Derived.Test.YtbhiklnljiehiaaGreatM3ar
import Derived.Test.YtbhiklnljiehiaaGreatM3as
set_option maxHeartbeats 4000000
set_option maxRecDepth 100000
namespace Go.Proofs.YtbhiklnljiehiaaGreat
open RowKit Shelf Tryz
attribute [local go_sem] Oper.semAt_some
def D7:Option Pu->List UInt8
 |none=> []
 |some p=>qO p.sn p.poll p.seg p.last p.off p.s p.e p.ps
theorem pM {x:Ou} (h:zS x):iZ (x.sn:Nat) false false 0 x.ps=true:=by
 have h1:=h.sn;have h2:=(nI x.ps).2 h.ps;simp[iZ,rQ,h2];omega
section
variable {D F:Nat->Prop} {g:Nat} {c:Cf} {st:Sd} {vq vo:Value} {vs os:List Value} {w:World}
theorem fQ.two {ar:Addr} {n cr:Nat} {r:Nat × Nat} {t:List (Nat × Nat)} (h:fQ w (some ar) n cr (r::t)):w.cell? ar=some (.int .i64 (r.1:Nat))/\w.cell? ⟨ar.block,ar.off+1,none⟩=some (.int .i64 (r.2:Nat)):=by
 have hl:=h.len;simp at hl;obtain ⟨Ew,e,hb,hc⟩:=h.at_ (by omega);cases e;have:=hc 0 r rfl;simpa[Addr.add] using this
theorem jv.Pg {p:Nat} {x:Ou} {Ap Ar:Option Addr} {cp cr:Nat} {vp:List Value} {w':World} (h:jv w D F p x Ap cp vp Ar cr) (hF:∀k,F k->k<w.heap.size) (hk:Kept (fun k _=>D k) w w'):jW w' w' Ap x.ps.length cp vp x.ps:=by
 have nd:∀{A:Option Addr},Kt F D A->∀ad,A=some ad->w'.heap[ad.block]? =w.heap[ad.block]? :=fun hi ad e=>by
  have hlt:=hF _ (hi ad e).1;have h1:w.heap[ad.block]? =some w.heap[ad.block]:=rH hlt;rw[h1];exact hk.same _ _ h1 (hi ad e).2
 exact h.ps.stay (nd h.pf) (fun i v ad hv e=>nd (h.pe i v hv) ad e)
theorem cZ.Pg {base:Nat} {A:Option Addr} {cc:Nat} {ps:List (List UInt8)} (h:cZ w base (.slice A ps.length cc) ps) (hD:∀k,D k->k<base):∃vl,∀w',Kept (fun k _=>D k) w w'->jW w' w'.heap.size A ps.length cc vl ps:=by
 obtain ⟨vl,h1,h2⟩:=h;refine ⟨vl,fun w' hk=>⟨gK (mI h1 hk fun k o hr hb hd=> ?_),rfl,fun i q hi=> ?_⟩⟩
 ·have:=(h1.lt k hb).1;have:=hD k hd;omega
 ·obtain ⟨A',c',e,ho⟩:=h2 i q hi;exact ⟨A',c',e,gK (mI ho hk fun k o hr hb hd=>by
   have:=(ho.lt k hb).1;have:=hD k hd;omega)⟩
def uD (w0:World) (x:Ou) (fr j:Nat) (wr:World):Prop:=
 Below w0 w0 wr/\((j=fr/\av wr w0 148 (dh 0 false false false 0 false false none 0 0))\/
  (fr<j/\∃A cc,av wr w0 148 (dh (x.sn:Nat) false true (decide (j=au x)) (fr:Nat) (bQ x.ps x.s 0 fr x.ps.length) (dN x.ps x.e 0 j x.ps.length) A (aO x.ps 0 fr j x.ps.length).length cc)/\
   cZ wr w0 (.slice A (aO x.ps 0 fr j x.ps.length).length cc) (aO x.ps 0 fr j x.ps.length)))
theorem cZ.Fw {base:Nat} {v:Value} {ps:List (List UInt8)} {w':World} (h:cZ w base v ps) (hb:Below w w w'):cZ w' base v ps:=by
 obtain ⟨vl,h1,h2⟩:=h;exact ⟨vl,own_below h1 hb (aL),fun i q hi=>let ⟨A,c,e,ho⟩:=h2 i q hi;⟨A,c,e,own_below ho hb (aL)⟩⟩
theorem uD.below {w0 wr w':World} {x:Ou} {fr j:Nat} (h:uD w0 x fr j wr) (hb:Below wr wr w'):uD w0 x fr j w':=by
 obtain ⟨h1,h2⟩:=h;refine ⟨h1.trans (hb.mono h1.size),?_⟩;rcases h2 with ⟨e,k⟩|⟨e,A,cc,k1,k2⟩
 ·exact .inl ⟨e,k.below hb k.lt⟩
 ·exact .inr ⟨e,A,cc,k1.below hb k1.lt,k2.Fw hb⟩
theorem uD.put {w0 wr w3:World} {x:Ou} {fr j m:Nat} {A:Option Addr} {cc:Nat} (h:uD w0 x fr j wr) (hb:Below wr wr w3) (hm:fr<m)
 (hp:cZ w3 w0 (.slice A (aO x.ps 0 fr m x.ps.length).length cc) (aO x.ps 0 fr m x.ps.length)):
 uD w0 x fr m ((((((((w3.setCell w0 (.int .i64 (x.sn:Nat))).setCell ⟨w0,1,none⟩ (.bool false)).setCell ⟨w0,2,none⟩ (.bool true)).setCell ⟨w0,3,none⟩ (.bool (decide (m=au x)))).setCell ⟨w0,4,none⟩ (.int .i64 (fr:Nat))).setCell ⟨w0,5,none⟩ (.bool (bQ x.ps x.s 0 fr x.ps.length))).setCell ⟨w0,6,none⟩ (.bool (dN x.ps x.e 0 m x.ps.length))).setCell ⟨w0,7,none⟩ (.slice A (aO x.ps 0 fr m x.ps.length).length cc)):=by
 have h3:=h.below hb;obtain ⟨u0,u1,u2,u3,u4,u5,u6,u7,hbk⟩:∃u0 u1 u2 u3 u4 u5 u6 u7,av w3 w0 148 #[u0,u1,u2,u3,u4,u5,u6,u7]:=by
  rcases h3.2 with ⟨e,k⟩|⟨e,A,cc,k1,k2⟩
  ·exact ⟨_,_,_,_,_,_,_,_,k⟩
  ·exact ⟨_,_,_,_,_,_,_,_,k1⟩
 have k0:=hp.store (i:=0) hbk (by decide) (by decide) (.int .i64 (x.sn:Nat));have k1:=k0.store (i:=1) (hbk.ay 0 _) (by decide) (by decide) (.bool false);have k2:=k1.store (i:=2) ((hbk.ay 0 _).ay 1 _) (by decide) (by decide) (.bool true);have k3:=k2.store (i:=3) (((hbk.ay 0 _).ay 1 _).ay 2 _) (by decide) (by decide) (.bool (decide (m=au x)));have k4:=k3.store (i:=4) ((((hbk.ay 0 _).ay 1 _).ay 2 _).ay 3 _) (by decide) (by decide) (.int .i64 (fr:Nat));have k5:=k4.store (i:=5) (((((hbk.ay 0 _).ay 1 _).ay 2 _).ay 3 _).ay 4 _) (by decide) (by decide) (.bool (bQ x.ps x.s 0 fr x.ps.length));have k6:=k5.store (i:=6) ((((((hbk.ay 0 _).ay 1 _).ay 2 _).ay 3 _).ay 4 _).ay 5 _) (by decide) (by decide) (.bool (dN x.ps x.e 0 m x.ps.length));have k7:=k6.store (i:=7) (((((((hbk.ay 0 _).ay 1 _).ay 2 _).ay 3 _).ay 4 _).ay 5 _).ay 6 _) (by decide) (by decide) (.slice A (aO x.ps 0 fr m x.ps.length).length cc);exact ⟨uw h3.1 (aL) _ _ _ _ _ _ _ _,.inr ⟨hm,A,cc,hbk.Us _ _ _ _ _ _ _ _,k7⟩⟩
theorem rz {w0 wc w5:World} {i p bb base:Nat} {x:Ou} {Ap Ar Ac:Option Addr} {cp cr cc:Nat} {vp:List Value} {l:List (Nat × Nat)} {v5:Value} {sn fr:Nat} {la s e:Bool} {CP:List (List UInt8)}
 (hA:gu wc D F g c st vq vs vo os) (hk:Kept (fun k _=>D k) w0 wc) (hx:st.out[i]? =some x) (hp:os[i]? =some (.pointer (some p))) (hO:jv wc D F p x Ap cp vp Ar cr)
 (hbb:av wc bb 148 (dh (sn:Nat) false true la (fr:Nat) s e Ac CP.length cc)) (hpo:cZ wc bb (.slice Ac CP.length cc) CP)
 (hb5:Below wc wc w5) (hv5:w5.ownsRow base 39 2 v5 l.length (sV l)) (hbase:wc<=base):
 ∃F' A5 c5,v5= .slice A5 l.length c5/\gu (w5.setCell ⟨p,10,none⟩ (.slice A5 l.length c5)) D F' g c (cB st i x l) vq vs vo os/\dU w0 F F'/\Kept (fun k _=>D k) w0 (w5.setCell ⟨p,10,none⟩ (.slice A5 l.length c5))/\
  av (w5.setCell ⟨p,10,none⟩ (.slice A5 l.length c5)) bb 148 (dh (sn:Nat) false true la (fr:Nat) s e Ac CP.length cc)/\cZ (w5.setCell ⟨p,10,none⟩ (.slice A5 l.length c5)) bb (.slice Ac CP.length cc) CP:=by
 obtain ⟨A5,c5,rfl,hsp,RU⟩:=fQ.eu hv5;have hz:=hk.size;have h5:=(hA.below hb5).ME (F':=fun k=>F k\/∃ad,A5=some ad/\k=ad.block) (fun _=> .inl) (fun k hk=>by
  rcases hk with hk|⟨ad,e,rfl⟩
  ·exact (hA.below hb5).lt k hk
  ·exact (RU ad e).2)
 have LH:=(hO.stay (w':=w5) fun k hk=>hb5.block k (hA.lt k hk)).ME (F':=fun k=>F k\/∃ad,A5=some ad/\k=ad.block) (fun _=> .inl);obtain ⟨h6,Oj⟩:=h5.O1 hx hp LH 10 (.slice A5 l.length c5) (z:= {x with pend:=l}) (QL:=A5) (RO:=c5) rfl rfl hsp (fun ad e=>⟨.inr ⟨ad,e,rfl⟩,fun hd=>by
  have h1:=(RU ad e).1;have h2:=hA.lt _ (hA.sub _ hd);omega⟩)
 have hk5:Kept (fun k _=>D k) w0 w5:=hk.trans ((Kept.of_below hb5).iI fun k o ho hm=>by have:=lt_of_heap ho;omega);refine ⟨_,A5,c5,rfl,h6,fun k hk'=> ?_,hk5.setCell (p:=⟨p,10,none⟩) (fun _ _=>hO.d) _,(hbb.below hb5 hbb.lt).far (p:=⟨p,10,none⟩) (hbb.off hO.blk (by decide)) _,(hpo.Fw hb5).store LH.blk (by decide) (by decide) _⟩;rcases hk' with hk'|⟨ad,e,rfl⟩
 ·exact .inl hk'
 ·have:=(RU ad e).1;exact .inr (by omega)
theorem fQ.aae {ar:Addr} {n cr:Nat} {r:Nat × Nat} {l:List (Nat × Nat)} (h:fQ w (some ar) (n+1) cr (r::l)) (hc:¬cr=1):fQ w (some ⟨ar.block,ar.off+2,none⟩) n (cr-1) l:=by
 have:=h.tail;rw[aP hc] at this;simpa[Addr.add] using this
theorem Ph (h:gu w D F g c st vq vs vo os) {K:Nat} (hB:lK st K) (hw:st.out.length<=512) (hf:st.first<1024) {i p:Nat} {x:Ou} {Ap Ar:Option Addr} {cp cr:Nat} {vp:List Value} (hx:st.out[i]? =some x) (hp:os[i]? =some (.pointer (some p))) (hO:jv w D F p x Ap cp vp Ar cr) (hpe:x.pend≠ [])
 (n:Int) (hn:0<=n) (hn2:n<=9223372036854775807):
 Calls prog 85 #[.pointer (some g),.pointer (some p),n] w (Ky w D F g c (dK c n st i x).1 (D7 (dK c n st i x).2)):=by
 obtain ⟨⟨fr,e0⟩,rest,O4⟩:=List.exists_cons_of_ne_nil hpe;have hok:=hB.ou x (iT hx);have hsz:=lM hok;have hr:=hok.pr (fr,e0) (by rw[O4];simp);have hpl:=hok.pl;dsimp only at hr;obtain ⟨R,hR⟩:∃R,dK c n st i x=R:=⟨_,rfl⟩
 rw[hR];have HR:=ah hR;obtain ⟨x0,x7,x8,x9,x10,Cb⟩:=hO.cells;have hrs:=hO.rs;have hlen:x.pend.length=rest.length+1:=by rw[O4];rfl
 rw[hlen] at x10 hrs;rw[O4] at hrs;obtain ⟨ar,har,_,_⟩:=hrs.at_ (by omega);subst har;obtain ⟨s0,s1⟩:=hrs.two;dsimp only at s0 s1;have hcr:=hrs.cap;have afN:=hrs.mx;have hpc:=hO.ps.sl.cap;have hpm:=hO.ps.sl.mx;have HH:=ah h;have HX:=ah hx;have HP:=ah hp;have HO:=ah hO;have HPD:=ah O4;have HRS:=ah hrs;have HB:=ah hB;clear h hx hp hO O4 hrs hB hR hlen hpe;go_enter func85,ntmps85;go_wp2
 go_quiet (fail)
 go_wp2_with fail;have hA1:=HH.out.drewN nq;have RZ:=HO.out.drewN nq;have afP:=HRS.out.drewN nq;have hk1:Kept (fun k _=>D k) w (w.drewN nq):=(Kept.refl _ w).jI nq;clear s0 s1 x0 x7 x8 x9 x10 Cb;generalize w.drewN nq=w1 at*;obtain ⟨x0,x7,x8,x9,x10,Cb⟩:=RZ.cells;obtain ⟨x1,x2,x3,x4,x5,x6⟩:=(show w1.cell? ⟨p,1,none⟩=some (.bool false)/\w1.cell? ⟨p,2,none⟩=some (.bool false)/\w1.cell? ⟨p,3,none⟩=some (.bool false)/\w1.cell? ⟨p,4,none⟩=some (.int .i64 0)/\w1.cell? ⟨p,5,none⟩=some (.bool x.s)/\w1.cell? ⟨p,6,none⟩=some (.bool x.e) from
  ⟨RZ.blk.cell 1,RZ.blk.cell 2,RZ.blk.cell 3,RZ.blk.cell 4,RZ.blk.cell 5,RZ.blk.cell 6⟩)
 have f10:=RZ.blk.frozen 10;have hlen:x.pend.length=rest.length+1:=by rw[HPD.out];rfl
 rw[hlen] at x10;have HA1:=ah hA1;have HO1:=ah RZ;have akL:=ah afP;have yN:=ah hk1;have kH:=ah hlen;clear hA1 RZ afP hk1 hlen HH HO HRS hcr afN;have an7:x.ps.length<=64:=hok.ps.hi;have hhd:=fun (W:World)=>wF (x.ps.length:Int) false W ⟨by omega,by omega⟩
 have hhb:=DZ (x.ps.length:Int);simp only[Fv] at hhd;generalize hhh:iV (x.ps.length:Int)=hd at*;have HHD:=ah hhd;have HHH:=ah hhh;have hsum:IntKind.i64.wrap (hd+(au x:Nat))=hd+(au x:Nat):=iG _ (by omega);clear hhd hhh;obtain ⟨b1,hb1⟩:∃b1,b1=decide (fr=0/\e0+1=au x/\hd+(au x:Int)<=n):=⟨_,rfl⟩
 have HB1:=ah hb1;clear hb1;go_cut [55] (fun s55 wx=>s55= .bool b1/\∃q,wx=w1.drewN q)
 case first=>
  have hb:=HB1.out;by_cases h1:fr=0
  ·have d1:((fr:Int)==0)=true:=by simp;omega
   by_cases h2:e0+1=au x
   ·have d2:((e0:Int)+1==(au x:Int))=true:=by simp;omega
    by_cases h3:hd+(au x:Int)<=n
    ·have d3:decide (hd+(au x:Int)<=n)=true:=iK h3;have e1:b1=true:=by rw[hb];exact iK ⟨h1,h2,h3⟩
     subst e1;have H1:=ah h1;have H2:=ah h2;clear h1 h2 hb;go_wp2
     go_quiet ((go_at_call 127;exact ve ((HHD.out _).mono fun _ _ hh=>⟨hh.1,hh.2.symm⟩)))
     go_wp2;go_meet;exact ⟨rfl,_,rfl⟩
    ·have d3:decide (hd+(au x:Int)<=n)=false:=iP h3;have e1:b1=false:=by rw[hb];exact iP (by omega)
     subst e1;have H1:=ah h1;have H2:=ah h2;clear h1 h2 hb;go_wp2
     go_quiet ((go_at_call 127;exact ve ((HHD.out _).mono fun _ _ hh=>⟨hh.1,hh.2.symm⟩)))
     go_wp2;go_meet;exact ⟨rfl,_,rfl⟩
   ·have d2:((e0:Int)+1==(au x:Int))=false:=by simp;omega
    have e1:b1=false:=by rw[hb];exact iP (by omega)
    subst e1;have H1:=ah h1;clear h1 hb;go_wp2
    go_quiet (fail)
    go_wp2;go_meet;exact ⟨rfl,_,rfl⟩
  ·have d1:((fr:Int)==0)=false:=by simp;omega
   have e1:b1=false:=by rw[hb];exact iP (by omega)
   subst e1;clear hb;go_wp2
   go_quiet (fail)
   go_wp2;go_meet;exact ⟨rfl,_,rfl⟩
 case rest=>
 obtain ⟨rfl,q,rfl⟩:=hcut;have hA2:=HA1.out.drewN q;have hO2:=HO1.out.drewN q;have abZ:=akL.out.drewN q;have hk2:=yN.out.jI q;clear x0 x1 x2 x3 x4 x5 x6 x7 x8 x9 x10 Cb f10;generalize w1.drewN q=w2 at*;have HA2:=ah hA2;have Xb:=ah hO2;have akM:=ah abZ;have EQ:=ah hk2;have hgl:w.heap.size<=w2.heap.size:=hk2.size;have hdl:∀k,D k->k<w2.heap.size:=fun k hd=>hA2.lt k (hA2.sub k hd)
 have E7:=ah hdl;by_cases hcond:fr=0/\e0+1=au x/\hd+(au x:Int)<=n
 ·have e1:b1=true:=by rw[HB1.out];exact iK hcond
  subst e1;have hRe:R=((aG c (cB st i x []) false).1,some ⟨x.sn,(aG c (cB st i x []) false).2,false,false,0,x.s,x.e,x.ps⟩):=by
   rw[<-HR.out];unfold dK;rw[HPD.out];dsimp only;rw[bD (by rw[HHH.out];exact hcond)]
  have Ux:=ah hRe;clear hRe HR hcond hdl;obtain ⟨hA3,hO3⟩:=hA2.O1 HX.out HP.out hO2 10 (.slice none 0 0) (z:= {x with pend:= []}) (QL:=none) (RO:=0) rfl rfl (fQ.nil _) (fun ad e=>by cases e);have hk3:=hk2.setCell (p:=⟨p,10,none⟩) (fun _ _=>hO2.d) (.slice none 0 0);have f10:=hO2.blk.frozen 10;have x10:=hO2.blk.cell 10;simp[My] at x10;clear hA2 hO2 abZ hk2;have hps:=fun w' hk=>hO3.Pg (w':=w') hA3.lt hk
  have hB2:=HB.out;have hfi:Calls prog 89 #[.pointer (some g),.agg #[.int .i64 (x.sn:Nat),.bool false,.bool false,.bool false,.int .i64 0,.bool x.s,.bool x.e,.slice Ap x.ps.length cp],.bool false] (w2.setCell ⟨p,10,none⟩ (.slice none 0 0)) (Ky (w2.setCell ⟨p,10,none⟩ (.slice none 0 0)) D F g c (aG c (cB st i x []) false).1 (qO x.sn (aG c (cB st i x []) false).2 false false 0 x.s x.e x.ps)):=
   lS hA3 hB2.held (by show (st.out.set i _).length<=512;rw[Dr];exact hw) hf x.sn false false false 0 x.s x.e Ap x.ps.length cp vp x.ps hps (pM hok) (by omega) false
  have MN:=ah hfi;obtain ⟨z0,z7,z8,z9,UE,Yb⟩:=hO3.cells;obtain ⟨z1,z2,z3,z4,z5,z6⟩:=(show (w2.setCell ⟨p,10,none⟩ (.slice none 0 0)).cell? ⟨p,1,none⟩=some (.bool false)/\(w2.setCell ⟨p,10,none⟩ (.slice none 0 0)).cell? ⟨p,2,none⟩=some (.bool false)/\(w2.setCell ⟨p,10,none⟩ (.slice none 0 0)).cell? ⟨p,3,none⟩=some (.bool false)/\(w2.setCell ⟨p,10,none⟩ (.slice none 0 0)).cell? ⟨p,4,none⟩=some (.int .i64 0)/\(w2.setCell ⟨p,10,none⟩ (.slice none 0 0)).cell? ⟨p,5,none⟩=some (.bool x.s)/\(w2.setCell ⟨p,10,none⟩ (.slice none 0 0)).cell? ⟨p,6,none⟩=some (.bool x.e) from
   ⟨hO3.blk.cell 1,hO3.blk.cell 2,hO3.blk.cell 3,hO3.blk.cell 4,hO3.blk.cell 5,hO3.blk.cell 6⟩)
  have qR:=ah hk3;clear hA3 hO3 hps hfi hk3 z8 z9 UE Yb hB2;go_upto_region 4 with (fail)
  generalize w2.setCell ⟨p,10,none⟩ (.slice none 0 0)=w3 at*;go_wp2_with fail;refine MN.out.mono ?_;rintro e4 w4 ⟨v,rfl,hv,hO4⟩;go_wp2;go_ret;rw[Ux.out];have hz3:=qR.out.size;exact ⟨v,rfl,bF hv hz3,pK.step qR.out (dU.refl _ _) (dU.refl _ _) hO4⟩
 ·have e1:b1=false:=by rw[HB1.out];exact iP hcond
  subst e1;clear hA2 hO2 abZ hk2
  go_upto_block 0 with (fail)
  obtain ⟨J,hJ⟩:∃J,J=qj (eX x fr n) (e0+1-fr) fr:=⟨_,rfl⟩
  have HJ:=ah hJ;have hJb:=pz (eX x fr n) (e0+1-fr) fr;rw[<-hJ] at hJb;clear hJ;have hbe:uD w2 x fr fr (w2.alloc (.cells (dh 0 false false false 0 false false none 0 0) 148)):=⟨(bS _ _).alloc (aL) _,.inl ⟨rfl,av.new _ _ _⟩⟩;have Ol:=ah hbe;unfold dh at Ol;clear hbe;go_cut [10] (fun s10 wx=>s10= .int .i64 (J:Nat)/\uD w2 x fr J wx)
  case first=>
   go_wp2_with fail
   go_loopw [10,11] (fun s10 s11 wr=>∃j:Nat,fr<=j/\j<=e0+1/\s10= .int .i64 (j:Nat)/\s11= .int .i64 ((j:Int)+1)/\uD w2 x fr j wr/\J=qj (eX x fr n) (e0+1-j) j) (fun _ i _=>e0+2-(intOf i).toNat)
   case atStart=>exact ⟨fr,aL,by omega,rfl,rfl,Ol.out,HJ.out⟩
   case round=>
    obtain ⟨j,hj1,hj2,rfl,rfl,yg,hgo⟩:=hrel;have yh:=ah hgo;clear hgo;by_cases hlt:j<e0+1
    ·have hb2:=yg.1;have hOr:=Xb.out.stay (w':=wr) (fun k hk=>hb2.block k (HA2.out.lt k hk));have hm:j+1<=au x:=by omega
     have hdec:(decide (j+1=0+aj x.ps)&&(false|| !false))=decide (j+1=au x):=by simp only[jA,uP,qK,Bool.and_true];rfl
     have hsl:jW wr wr Ap x.ps.length cp vp x.ps:=hOr.ps;have hct:Calls prog 128 #[.agg #[.int .i64 (x.sn:Nat),.bool false,.bool false,.bool false,.int .i64 0,.bool x.s,.bool x.e,.slice Ap x.ps.length cp],.int .i64 (fr:Nat),.int .i64 ((j:Int)+1)] wr (Mi wr (x.sn:Nat) (decide (j+1=au x)) (fr:Nat) (bQ x.ps x.s 0 fr x.ps.length) (dN x.ps x.e 0 (j+1) x.ps.length) (aO x.ps 0 fr (j+1) x.ps.length)):=by
      have:=Yf (x.sn:Nat) false false false 0 x.s x.e Ap x.ps.length cp vp x.ps fr (j+1) wr hsl (pM hok) (by omega) (eH _) (by omega) (by unfold au at hm;omega);rw[hdec] at this;exact this
     have HCT:=ah hct;have hvp:=sK x.ps 0 fr (j+1) hok.ps (eH _) (by omega) (by unfold au at hm;omega);have hvl:=hvp.lo;have hvh:=hvp.hi;have hsf:eX x fr n (j+1)=decide (iV ((aO x.ps 0 fr (j+1) x.ps.length).length:Int)+2+(((j+1:Nat):Int)-(fr:Int))<=n):=rfl;have hput:=fun w3 A cc=>yg.put (w3:=w3) (m:=j+1) (A:=A) (cc:=cc)
     have akN:=ah hput;have Jk:=ah yg;have HSF:=ah hsf;obtain ⟨x0,x7,x8,x9,x10,Cb⟩:=hOr.cells;obtain ⟨x1,x2,x3,x4,x5,x6⟩:=(show wr.cell? ⟨p,1,none⟩=some (.bool false)/\wr.cell? ⟨p,2,none⟩=some (.bool false)/\wr.cell? ⟨p,3,none⟩=some (.bool false)/\wr.cell? ⟨p,4,none⟩=some (.int .i64 0)/\wr.cell? ⟨p,5,none⟩=some (.bool x.s)/\wr.cell? ⟨p,6,none⟩=some (.bool x.e) from
      ⟨hOr.blk.cell 1,hOr.blk.cell 2,hOr.blk.cell 3,hOr.blk.cell 4,hOr.blk.cell 5,hOr.blk.cell 6⟩)
     clear hct hvp hsf hput yg hOr hsl hdec x8 x9 x10 Cb;generalize aO x.ps 0 fr (j+1) x.ps.length=CP at*;generalize bQ x.ps x.s 0 fr x.ps.length=CS at*;generalize dN x.ps x.e 0 (j+1) x.ps.length=CE at*;generalize decide (j+1=au x)=CL at*;go_wp2_with fail;refine HCT.out.mono ?_;rintro e3 w3 ⟨hb3,Ac,cc,rfl,hpo⟩;unfold dh;have hcc:CP.length<=cc/\cc<=9223372036854775807:=by
      obtain ⟨vl,h1,_⟩:=hpo;exact ⟨(gK h1).cap,(gK h1).mx⟩
     obtain ⟨arp,arq⟩:=hcc;have ab0:=fun (W:World)=>wF (CP.length:Int) true W ⟨by omega,by omega⟩
     have ars:=DZ (CP.length:Int);rw[RY _ (by omega) (by omega)] at ab0;generalize GJ:iV (CP.length:Int)=hd2 at*;have akO:=ah ab0;have HH2:=ah GJ;have HB3:=ah hb3;have Z9:=ah hpo;clear ab0 GJ hb3 hpo x0 x1 x2 x3 x4 x5 x6 x7;go_wp2_with fail;refine (akO.out _).mono ?_;rintro e4 w4 ⟨rfl,rfl⟩;by_cases hfit:hd2+2+(((j+1:Nat):Int)-(fr:Int))<=n
     ·have d1:decide (n<hd2+2+((j:Int)+1)-fr)=false:=iP (by omega);have hbw:=gG Jk.out.1.size HB3.out.size;have hnx:=akN.out (w3.alloc (.cells #[.int .i64 (x.sn:Nat),.bool false,.bool true,.bool CL,.int .i64 (fr:Nat),.bool CS,.bool CE,.slice Ac CP.length cc] 148)) Ac cc (HB3.out.alloc HB3.out.size _) (by omega) ((Z9.out.CW Jk.out.1.size).Fw ((bS _ _).alloc (aL) _));have Jh:=ah hnx;obtain ⟨u0,u1,u2,u3,u4,u5,u6,u7,hbk⟩:∃u0 u1 u2 u3 u4 u5 u6 u7,av w3 w2 148 #[u0,u1,u2,u3,u4,u5,u6,u7]:=by
       have:=(Jk.out.below HB3.out).2;rcases this with ⟨e,k⟩|⟨e,A,cc,k1,k2⟩
       ·exact ⟨_,_,_,_,_,_,_,_,k⟩
       ·exact ⟨_,_,_,_,_,_,_,_,k1⟩
      have Ib:=hbk.alloc (.cells #[.int .i64 (x.sn:Nat),.bool false,.bool true,.bool CL,.int .i64 (fr:Nat),.bool CS,.bool CE,.slice Ac CP.length cc] 148);obtain ⟨y0,y1,y2,y3,y4,y5,y6,y7⟩:=Ib.eight;have g0:=Ib.frozen 0;have g1:=Ib.frozen 1;have g2:=Ib.frozen 2;have g3:=Ib.frozen 3;have g4:=Ib.frozen 4;have g5:=Ib.frozen 5;have g6:=Ib.frozen 6;have g7:=Ib.frozen 7;have afQ:J=qj (eX x fr n) (e0+1-(j+1)) (j+1):=by
       rw[yh.out,show e0+1-j=(e0+1-(j+1))+1 by omega,qj,HSF.out,bD (iK hfit)]
      have akP:=ah afQ;have hnb:=av.new w3 148 #[.int .i64 (x.sn:Nat),.bool false,.bool true,.bool CL,.int .i64 (fr:Nat),.bool CS,.bool CE,.slice Ac CP.length cc];obtain ⟨t0,t1,t2,t3,t4,t5,t6,t7⟩:=hnb.eight;clear hnx hbk Ib afQ hnb hbw;go_upto_region 12 with (fail)
      generalize w3.alloc (.cells #[.int .i64 (x.sn:Nat),.bool false,.bool true,.bool CL,.int .i64 (fr:Nat),.bool CS,.bool CE,.slice Ac CP.length cc] 148)=w5 at*;go_wp2
      go_roundw
      case rel=>exact ⟨j+1,by omega,by omega,by go_num,by go_num,Jh.out,akP.out⟩
      case measure=>simp[intOf];omega
     ·have d1:decide (n<hd2+2+((j:Int)+1)-fr)=true:=iK (by omega);have hend:J=j:=by
       rw[yh.out,show e0+1-j=(e0+1-(j+1))+1 by omega,qj,HSF.out,aP (by simpa using hfit)]
      subst hend;go_wp2;go_meet;exact ⟨rfl,Jk.out.below (HB3.out.alloc HB3.out.size _)⟩
    ·have hend:J=j:=by
      have:=yh.out;rw[show e0+1-j=0 by omega] at this;exact this
     subst hend;have Jk:=ah yg;clear yg;go_wp2;go_meet;exact ⟨rfl,Jk.out⟩
  case rest=>
  obtain ⟨rfl,yg⟩:=hcut;have hb2:=yg.1;have Yg:=HA2.out.below hb2;have hk4:Kept (fun k _=>D k) w wc:=EQ.out.trans ((Kept.of_below hb2).iI fun k o ho hm=>by have:=lt_of_heap ho;omega);have hRe:=HR.out;unfold dK at hRe;rw[HPD.out] at hRe;dsimp only at hRe;rw[aP (by rw[HHH.out];exact hcond),<-HJ.out] at hRe;by_cases Yn:J=fr
  ·rw[bD Yn] at hRe;have Ux:=ah hRe;have dJ:((J:Int)==(fr:Int))=true:=by simp;omega
   have HJ1:=ah Yn;have R3:=ah Yg;have GL:=ah hk4;clear hRe Yn Yg hk4 yg hb2;go_wp2;go_ret;rw[<-Ux.out];exact ⟨_,rfl,jl _ _ _ _,R3.out.o GL.out⟩
  rw[aP Yn] at hRe;have dJ:((J:Int)==(fr:Int))=false:=by simp;omega
  have hfJ:fr<J:=by omega
  obtain ⟨-,⟨hc1,_⟩|⟨_,Ac,cc,hbb,hpo⟩⟩:=yg
  ·exact absurd hc1 Yn
  have hO4:=Xb.out.stay (w':=wc) (fun k hk=>hb2.block k (HA2.out.lt k hk));have Yo:=akM.out.below hb2;have x10:=hO4.blk.cell 10;have f10:=hO4.blk.frozen 10;simp[My] at x10;rw[kH.out] at x10;have hcr:=Yo.cap;have afN:=Yo.mx;have hJs:J<=0+aj x.ps:=by
   have h1:J<=au x:=by omega
   unfold au at h1;omega
  have hvp:=sK x.ps 0 fr J hok.ps (eH _) hfJ hJs;have hcs:=zW x.ps 0 fr J (eH _) hJs;have hvA:iZ (x.sn:Nat) true (decide (J=au x)) (fr:Nat) (aO x.ps 0 fr J x.ps.length)=true:=
   (qo _ _ _ _ _).2 ⟨by omega,by have:=hok.sn;omega,(nI _).2 hvp,fun _=>by rw[hcs];omega,fun e=>by cases e⟩
  have RU:=Yg;have hlr:rest.length<=1000:=by have:=kH.out;omega
  have aru:=hO4.blk.lt;have Pj:=ah hO4;have R3:=ah Yg;have GL:=ah hk4;have Om:=ah hbb;have Z9:=ah hpo;have Yp:=ah Yo;have QI:=ah hvA;clear hO4 Yg hk4 hbb hpo Yo hvA hcs hvp hb2 RU;by_cases hJ2:J=e0+1
  ·have dJ2:((J:Int)==(e0:Int)+1)=true:=by simp;omega
   rw[bD hJ2] at hRe;have Ux:=ah hRe;have HJ2:=ah hJ2;have HJS:=ah hJs;clear hRe hJ2 hJs;by_cases hc1:cr=1
   ·have hr0:rest= []:=nV (by omega);have HR0:=ah hr0;clear hr0;have UN:=C5 (some ar) rest.length 0 rest wc (by have:=Yp.out.tail;rw[bD hc1,hc1] at this;exact this) (by omega);have ab2:=ah UN;clear UN;go_wp2_with fail;refine ab2.out.mono ?_;rintro e5 w5 ⟨v5,rfl,hv5,hb5⟩;obtain ⟨F',A5,c5,rfl,QR,QS,qP,Fx,xK⟩:=rz R3.out GL.out HX.out HP.out Pj.out Om.out Z9.out hb5 hv5 (aL);have Xc:=(hb5.cell (p:=⟨p,10,none⟩) Pj.out.blk.lt).trans x10;have r10:=(hb5.frozen (p:=⟨p,10,none⟩) Pj.out.blk.lt).trans f10;obtain ⟨vl,hps⟩:=xK.Pg E7.out;have hfi:=lS QR HB.out.held (by show (st.out.set i _).length<=512;rw[Dr];exact hw) hf x.sn false true (decide (J=au x)) fr (bQ x.ps x.s 0 fr x.ps.length) (dN x.ps x.e 0 J x.ps.length) Ac (aO x.ps 0 fr J x.ps.length).length cc vl _ hps QI.out (by omega) false;unfold dh at hfi;have MN:=ah hfi;obtain ⟨t0,t1,t2,t3,t4,t5,t6,t7⟩:=Fx.eight;have zu:=ah qP;have Xd:=ah QS;clear QR QS qP Fx xK hps hfi hv5;go_upto_region 18 with (fail)
    generalize w5.setCell ⟨p,10,none⟩ (.slice A5 rest.length c5)=w6 at*;clear Xc r10;go_wp2_with fail;refine MN.out.mono ?_;rintro e7 w7 ⟨v7,rfl,hv7,QT⟩;go_wp2;go_ret;rw[<-Ux.out];exact ⟨v7,rfl,bF hv7 zu.out.size,pK.step zu.out (dU.refl _ _) Xd.out QT⟩
   ·have UN:=C5 _ _ _ rest wc (Yp.out.aae hc1) (by omega);have ab2:=ah UN;clear UN;go_wp2_with fail;refine ab2.out.mono ?_;rintro e5 w5 ⟨v5,rfl,hv5,hb5⟩;obtain ⟨F',A5,c5,rfl,QR,QS,qP,Fx,xK⟩:=rz R3.out GL.out HX.out HP.out Pj.out Om.out Z9.out hb5 hv5 (aL);have Xc:=(hb5.cell (p:=⟨p,10,none⟩) Pj.out.blk.lt).trans x10;have r10:=(hb5.frozen (p:=⟨p,10,none⟩) Pj.out.blk.lt).trans f10;obtain ⟨vl,hps⟩:=xK.Pg E7.out;have hfi:=lS QR HB.out.held (by show (st.out.set i _).length<=512;rw[Dr];exact hw) hf x.sn false true (decide (J=au x)) fr (bQ x.ps x.s 0 fr x.ps.length) (dN x.ps x.e 0 J x.ps.length) Ac (aO x.ps 0 fr J x.ps.length).length cc vl _ hps QI.out (by omega) false;unfold dh at hfi;have MN:=ah hfi;obtain ⟨t0,t1,t2,t3,t4,t5,t6,t7⟩:=Fx.eight;have zu:=ah qP;have Xd:=ah QS;clear QR QS qP Fx xK hps hfi hv5;go_upto_region 18 with (fail)
    generalize w5.setCell ⟨p,10,none⟩ (.slice A5 rest.length c5)=w6 at*;clear Xc r10;go_wp2_with fail;refine MN.out.mono ?_;rintro e7 w7 ⟨v7,rfl,hv7,QT⟩;go_wp2;go_ret;rw[<-Ux.out];exact ⟨v7,rfl,bF hv7 zu.out.size,pK.step zu.out (dU.refl _ _) Xd.out QT⟩
  ·have dJ2:((J:Int)==(e0:Int)+1)=false:=by simp;omega
   rw[aP hJ2] at hRe;have Ux:=ah hRe;have HJ2:=ah hJ2;have HJS:=ah hJs;clear hRe hJ2 hJs;by_cases hc1:cr=1
   ·have hr0:rest= []:=nV (by omega);have HR0:=ah hr0;have HT1:fQ wc (some ar) rest.length 0 rest:=by have:=Yp.out.tail;rw[bD hc1,hc1] at this;exact this
    clear hr0;have hW:=(av.new (wc.alloc (.cells #[.int .i64 (J:Nat),.int .i64 (e0:Nat)] 39)) 150 #[.slice (some ⟨wc,0,none⟩) 1 1,.slice (some ar) rest.length 0]);rw[mZ] at hW;have hTW:Ji ((wc.alloc (.cells #[.int .i64 (J:Nat),.int .i64 (e0:Nat)] 39)).alloc (.cells #[.slice (some ⟨wc,0,none⟩) 1 1,.slice (some ar) rest.length 0] 150)) (wc+1) (some ⟨wc,0,none⟩) (some ar) 1 1 rest.length (0) [(J,e0)] rest:=
     ⟨hW,(fQ.new wc 39 J e0).alloc _,((HT1).alloc _).alloc _⟩
    have hcon:=AO (wc+1) _ _ 1 1 rest.length (0) [(J,e0)] rest _ hTW (by omega) (by omega);have ab4:=ah hcon;clear hW hTW hcon;go_wp2_with fail;refine ab4.out.mono ?_;rintro e5 w5 ⟨v5,rfl,hv5,UO⟩;have hb5:Below wc wc w5:=(((bS _ wc).alloc (aL) _).alloc (by simp) _).trans (UO.mono (by simp;omega));have hv5:w5.ownsRow ((wc.alloc (.cells #[.int .i64 (J:Nat),.int .i64 (e0:Nat)] 39)).alloc (.cells #[.slice (some ⟨wc,0,none⟩) 1 1,.slice (some ar) rest.length 0] 150)).heap.size 39 2 v5 ((J,e0)::rest).length (sV ((J,e0)::rest)):=hv5;clear UO;obtain ⟨F',A5,c5,rfl,QR,QS,qP,Fx,xK⟩:=rz R3.out GL.out HX.out HP.out Pj.out Om.out Z9.out hb5 hv5 (by simp;omega);have Xc:=(hb5.cell (p:=⟨p,10,none⟩) Pj.out.blk.lt).trans x10;have r10:=(hb5.frozen (p:=⟨p,10,none⟩) Pj.out.blk.lt).trans f10;obtain ⟨vl,hps⟩:=xK.Pg E7.out;have hfi:=lS QR HB.out.held (by show (st.out.set i _).length<=512;rw[Dr];exact hw) hf x.sn false true (decide (J=au x)) fr (bQ x.ps x.s 0 fr x.ps.length) (dN x.ps x.e 0 J x.ps.length) Ac (aO x.ps 0 fr J x.ps.length).length cc vl _ hps QI.out (by omega) false;unfold dh at hfi;have MN:=ah hfi;obtain ⟨t0,t1,t2,t3,t4,t5,t6,t7⟩:=Fx.eight;have zu:=ah qP;have Xd:=ah QS;clear QR QS qP Fx xK hps hfi hv5;go_upto_region 18 with (fail)
    generalize w5.setCell ⟨p,10,none⟩ (.slice A5 ((J,e0)::rest).length c5)=w6 at*;clear Xc r10;go_wp2_with fail;refine MN.out.mono ?_;rintro e7 w7 ⟨v7,rfl,hv7,QT⟩;go_wp2;go_ret;rw[<-Ux.out];exact ⟨v7,rfl,bF hv7 zu.out.size,pK.step zu.out (dU.refl _ _) Xd.out QT⟩
   ·have hW:=(av.new (wc.alloc (.cells #[.int .i64 (J:Nat),.int .i64 (e0:Nat)] 39)) 150 #[.slice (some ⟨wc,0,none⟩) 1 1,.slice (some ⟨ar.block,ar.off+2,none⟩) rest.length (cr-1)]);rw[mZ] at hW;have hTW:Ji ((wc.alloc (.cells #[.int .i64 (J:Nat),.int .i64 (e0:Nat)] 39)).alloc (.cells #[.slice (some ⟨wc,0,none⟩) 1 1,.slice (some ⟨ar.block,ar.off+2,none⟩) rest.length (cr-1)] 150)) (wc+1) (some ⟨wc,0,none⟩) (some ⟨ar.block,ar.off+2,none⟩) 1 1 rest.length (cr-1) [(J,e0)] rest:=
     ⟨hW,(fQ.new wc 39 J e0).alloc _,((Yp.out.aae hc1).alloc _).alloc _⟩
    have hcon:=AO (wc+1) _ _ 1 1 rest.length (cr-1) [(J,e0)] rest _ hTW (by omega) (by omega);have ab4:=ah hcon;clear hW hTW hcon;go_wp2_with fail;refine ab4.out.mono ?_;rintro e5 w5 ⟨v5,rfl,hv5,UO⟩;have hb5:Below wc wc w5:=(((bS _ wc).alloc (aL) _).alloc (by simp) _).trans (UO.mono (by simp;omega));have hv5:w5.ownsRow ((wc.alloc (.cells #[.int .i64 (J:Nat),.int .i64 (e0:Nat)] 39)).alloc (.cells #[.slice (some ⟨wc,0,none⟩) 1 1,.slice (some ⟨ar.block,ar.off+2,none⟩) rest.length (cr-1)] 150)).heap.size 39 2 v5 ((J,e0)::rest).length (sV ((J,e0)::rest)):=hv5;clear UO;obtain ⟨F',A5,c5,rfl,QR,QS,qP,Fx,xK⟩:=rz R3.out GL.out HX.out HP.out Pj.out Om.out Z9.out hb5 hv5 (by simp;omega);have Xc:=(hb5.cell (p:=⟨p,10,none⟩) Pj.out.blk.lt).trans x10;have r10:=(hb5.frozen (p:=⟨p,10,none⟩) Pj.out.blk.lt).trans f10;obtain ⟨vl,hps⟩:=xK.Pg E7.out;have hfi:=lS QR HB.out.held (by show (st.out.set i _).length<=512;rw[Dr];exact hw) hf x.sn false true (decide (J=au x)) fr (bQ x.ps x.s 0 fr x.ps.length) (dN x.ps x.e 0 J x.ps.length) Ac (aO x.ps 0 fr J x.ps.length).length cc vl _ hps QI.out (by omega) false;unfold dh at hfi;have MN:=ah hfi;obtain ⟨t0,t1,t2,t3,t4,t5,t6,t7⟩:=Fx.eight;have zu:=ah qP;have Xd:=ah QS;clear QR QS qP Fx xK hps hfi hv5;go_upto_region 18 with (fail)
    generalize w5.setCell ⟨p,10,none⟩ (.slice A5 ((J,e0)::rest).length c5)=w6 at*;clear Xc r10;go_wp2_with fail;refine MN.out.mono ?_;rintro e7 w7 ⟨v7,rfl,hv7,QT⟩;go_wp2;go_ret;rw[<-Ux.out];exact ⟨v7,rfl,bF hv7 zu.out.size,pK.step zu.out (dU.refl _ _) Xd.out QT⟩
end
end Go.Proofs.YtbhiklnljiehiaaGreat
