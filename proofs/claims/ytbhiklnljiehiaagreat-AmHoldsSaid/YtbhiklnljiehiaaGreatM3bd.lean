/- Status: the state between two rounds of. -/
import Derived.Test.YtbhiklnljiehiaaGreatM3ba
import Derived.Test.YtbhiklnljiehiaaGreatM3bb
set_option maxHeartbeats 4000000
set_option maxRecDepth 100000
namespace Go.Proofs.YtbhiklnljiehiaaGreat
open RowKit Shelf Tryz
attribute [local go_sem] Oper.semAt_some
def Im (c:Cf) (m:Ou->List (Nat × Nat)) (st:Sd) (k:Nat):Sd:= {st with out:=(aT c m k st.out).1,failed:=st.failed||(aT c m k st.out).2}
theorem Vy (c:Cf) (m:Ou->List (Nat × Nat)) (st:Sd):Im c m st 0=st:=by
 obtain ⟨q,d,f,t,fi,o,p,b,po,wa,ex,ow,fa,no⟩:=st;simp[Im,aT]
theorem Q9 (c:Cf) (m:Ou->List (Nat × Nat)) (st:Sd) (k:Nat):(Im c m st k).out[k]? =st.out[k]? :=by
 show (aT c m k st.out).1[k]? =st.out[k]?
 rw[jk,aP (Nat.lt_irrefl k)]
theorem Nl {c:Cf} {m:Ou->List (Nat × Nat)} {st:Sd} {k:Nat} {x:Ou} (hx:st.out[k]? =some x):Im c m st (k+1)=iW (Im c m st k) k (bT c m x):=by
 have h1:(aT c m (k+1) st.out).1=(aT c m k st.out).1.set k (bT c m x).1:=by
  apply zG;intro i;rw[jk,IC,jk,jK];have hk:=(pN.1 hx).1;by_cases hik:k=i
  ·subst hik;rw[bD (by omega),bD rfl,bD hk,hx];rfl
  ·rw[aP hik];by_cases hlt:i<k
   ·rw[bD (by omega),bD hlt]
   ·rw[aP (by omega),aP hlt]
 have h2:(aT c m (k+1) st.out).2=((aT c m k st.out).2||(bT c m x).2):=by
  simp only[aT];rw[pX,hx];simp
 unfold Im iW;rw[h1,h2,Bool.or_assoc]
theorem SC {c:Cf} {m:Ou->List (Nat × Nat)} {st:Sd} {k:Nat} {x:Ou} (hx:st.out[k]? =some x) (ha:x.bJ=true):Im c m st (k+1)=Im c m st k:=by
 have hg:=Q9 c m st k;rw[hx] at hg;rw[Nl hx];have e:bT c m x=(x,false):=by unfold bT;rw[bD ha]
 rw[e];unfold iW;have h3:(Im c m st k).out.set k x=(Im c m st k).out:=by
  apply zG;intro i;rw[IC];split
  ·rename_i hik;subst hik;split
   ·exact hg.symm
   ·rename_i hl;exact (kV (by omega)).symm
  ·rfl
 simp only[h3,Bool.or_false]
section
variable {D F:Nat->Prop} {g:Nat} {c:Cf} {st:Sd} {vq vo:Value} {vs os:List Value} {w:World}
theorem gu.confirm (h:gu w D F g c st vq vs vo os) {i p:Nat} {x:Ou} {Ap Ar:Option Addr} {cp cr:Nat} {vp:List Value} (hx:st.out[i]? =some x) (hp:os[i]? =some (.pointer (some p))) (hO:jv w D F p x Ap cp vp Ar cr):
 gu ((w.setCell ⟨p,9,none⟩ (.bool true)).setCell ⟨p,10,none⟩ (.slice none 0 0)) D F g c (iW st i ({x with bJ:=true,pend:= []},false)) vq vs vo os/\Kept (fun k _=>D k) w ((w.setCell ⟨p,9,none⟩ (.bool true)).setCell ⟨p,10,none⟩ (.slice none 0 0)):=by
 obtain ⟨h1,o1⟩:=h.O1 hx hp hO 9 (.bool true) (z:= {x with bJ:=true}) (by simp[My,au]) rfl hO.rs hO.rf;have hil:=(pN.1 hx).1;have hx1:(st.out.set i {x with bJ:=true})[i]? =some {x with bJ:=true}:=Iy hil;obtain ⟨h2,_⟩:=h1.O1 hx1 hp o1 10 (.slice none 0 0) (z:= {x with bJ:=true,pend:= []}) (QL:=none) (RO:=0) (by simp[My,au]) rfl (fQ.nil _) (fun ad e=>by cases e);have e:iW st i ({x with bJ:=true,pend:= []},false)= {st with out:=(st.out.set i {x with bJ:=true}).set i {x with bJ:=true,pend:= []}}:=by
  unfold iW;rw[List.set_set,Bool.or_false]
 rw[e];exact ⟨h2,((Kept.refl _ w).setCell (p:=⟨p,9,none⟩) (fun _ _=>hO.d) _).setCell (p:=⟨p,10,none⟩) (fun _ _=>hO.d) _⟩
theorem gu.Cq {w0:World} (h:gu w0 D F g c st vq vs vo os) {b:Nat} (hF:∀k,F k->k<w.heap.size) (hb:w<=b) (j:Nat) (u:Value):gu (w0.setCell ⟨b,j,none⟩ u) D F g c st vq vs vo os:=
 h.stay fun k hk=>iE (fun e=>by have:=hF k hk;have e2:k=b:=e;omega)
theorem Kept.Cq {M:Nat->Obj->Prop} {w0:World} (hk:Kept M w w0) {b:Nat} (hb:w<=b) (j:Nat) (u:Value):Kept M w (w0.setCell ⟨b,j,none⟩ u):=
 ⟨hk.os,hk.tape,hk.output,gG hk.size (by simp[World.setCell]),fun k o ho hm=>(iE (fun e=>by have:=(uZ.1 ho).1;have e2:k=b:=e;omega)).trans (hk.same k o ho hm)⟩
structure YQ (w:World) (g:Nat) (aA:Int) (A:Option Addr) (n cc:Nat) (w0:World):Prop where
 b:Below w w w0
 s:av w0 w 49 #[.pointer (some g)]
 r:av w0 (w+1) 133 #[aA,.slice A n cc]
 e:av w0 (w.heap.size+1+1) 53 #[.int .i64 0]
 z:w0.heap.size=w.heap.size+3
theorem YQ.mk' (w:World) (g:Nat) (aA:Int) (A:Option Addr) (n cc:Nat):YQ w g aA A n cc (((w.alloc (.cells #[.pointer (some g)] 49)).alloc (.cells #[aA,.slice A n cc] 133)).alloc (.cells #[.int .i64 0] 53)):=by
 have h1:=((av.new w 49 #[.pointer (some g)]).alloc (.cells #[aA,.slice A n cc] 133)).alloc (.cells #[.int .i64 0] 53);have h2:=(av.new (w.alloc (.cells #[.pointer (some g)] 49)) 133 #[aA,.slice A n cc]).alloc (.cells #[.int .i64 0] 53);have h3:=av.new ((w.alloc (.cells #[.pointer (some g)] 49)).alloc (.cells #[aA,.slice A n cc] 133)) 53 #[.int .i64 0];simp only[mZ] at h2 h3;exact ⟨(((bS _ w).alloc (aL) _).alloc (by simp) _).alloc (by simp;omega) _,h1,h2,h3,by simp⟩
theorem yt (h:gu w D F g c st vq vs vo os) (ht:1<=c.timer) (now aA:Int) (A:Option Addr) (n cc:Nat) (fI:List Nk) (hN:dD w A n cc fI) (hx:st.failed=true\/bO aA fI=false):
 Calls prog 93 #[.pointer (some g),now,.agg #[aA,.slice A n cc]] w (Vx w D F g c (bP c st now aA fI)):=by
 have HW:=ah (YQ.mk' w g aA A n cc);have HH:=ah h;have HN:=ah hN
 go_enter_defers func93,ntmps93
 clear h hN;go_wp2_with fail;generalize ((w.alloc (.cells #[.pointer (some g)] 49)).alloc (.cells #[aA,.slice A n cc] 133)).alloc (.cells #[.int .i64 0] 53)=w0 at*;have hA:=HH.out.below HW.out.b;have hch:=lu hA ht;have e0:=HW.out.e.cell 0;have e1:=HW.out.e.frozen 0;have r0:=HW.out.r.cell 0;have r1:=HW.out.r.cell 1;simp at e0 r0 r1;have HA:=ah hA;have uy:=ah hch;clear hA hch;refine uy.out.mono ?_;cases hf:st.failed with
 |true=>
  have hfin:bP c st now aA fI=(st,8):=by unfold bP;rw[bD hf]
  have lz:=ah hfin;clear hfin hf hx;simp only[kE];rintro e1 w1 ⟨rfl,rfl⟩;go_wp2;have q:=((HW.out.e.ay 0 (.int .i64 8)).ay 0 (.int .i64 8)).cell 0;simp at q;refine ⟨.int .i64 8,by simp[results,results93,go_sem,q],?_⟩;rw[lz.out];have hz:=HW.out.z;exact ⟨rfl,((HA.out.Cq HH.out.lt (b:=w.heap.size+1+1) (by omega) 0 _).Cq HH.out.lt (b:=w.heap.size+1+1) (by omega) 0 _).o (((Kept.eZ HW.out.b).Cq (b:=w.heap.size+1+1) (by omega) 0 _).Cq (b:=w.heap.size+1+1) (by omega) 0 _)⟩
 |false=>
  have hv:bO aA fI=false:=by
   rcases hx with e|e
   ·rw[hf] at e;cases e
   ·exact e
  have hfin:bP c st now aA fI=(st,2):=by unfold bP kS;rw[aP (by simp[hf]),bD hv]
  have lz:=ah hfin;have hva:=nL (w0.setCell ⟨w.heap.size+1+1,0,none⟩ (.int .i64 0)) aA A n cc fI (HN.out.below (HW.out.b.setCell (p:=⟨w.heap.size+1+1,0,none⟩) (by simp;omega) _));rw[hv] at hva;have QI:=ah hva;clear hfin hf hx hv hva;simp only[mq,l7];rintro e1 w1 ⟨rfl,rfl⟩;go_wp2_with fail;refine QI.out.mono ?_;rintro e2 w2 ⟨rfl,hb2⟩;have hE2:=(HW.out.e.ay 0 (.int .i64 0)).below hb2 (by have:=HW.out.e.lt;simpa[World.setCell] using this);have c2:=hE2.cell 0;have f2:=hE2.frozen 0;simp at c2;have HE2:=ah hE2;have HB2:=ah hb2;clear hE2 hb2;go_wp2;have q:=(HE2.out.ay 0 (.int .i64 2)).cell 0;simp at q;refine ⟨.int .i64 2,by simp[results,results93,go_sem,q],?_⟩;rw[lz.out];exact ⟨rfl,(((HA.out.Cq HH.out.lt (b:=w.heap.size+1+1) (by omega) 0 _).below HB2.out).Cq HH.out.lt (b:=w.heap.size+1+1) (by omega) 0 _).o ((((Kept.eZ HW.out.b).Cq (b:=w.heap.size+1+1) (by omega) 0 _).trans (Kept.eZ HB2.out)).Cq (b:=w.heap.size+1+1) (by omega) 0 _)⟩
end
theorem dD.Vz {w w':World} {A:Option Addr} {n c:Nat} {l:List Nk} {M:Nat->Obj->Prop} (h:dD w A n c l) (hk:Kept M w w') (hM:∀ad,A=some ad->0<n->∀o,¬M ad.block o):dD w' A n c l:=
 ⟨h.len,h.cap,h.mx,fun hn=>by
  obtain ⟨ad,e,hlt,hc⟩:=h.at_ hn;have h1:=rH hlt;have hb:w'.heap[ad.block]? =w.heap[ad.block]? :=by rw[hk.same _ _ h1 (hM ad e hn _),h1]
  refine ⟨ad,e,zD hlt hk.size,fun j r hr=> ?_⟩;obtain ⟨k0,k1,k2,k3⟩:=hc j r hr;have hbk:w'.heap[(ad.add (j*4)).block]? =w.heap[(ad.add (j*4)).block]? :=by rw[block_add];exact hb
  exact ⟨(Ei (a:=ad.add (j*4)) hbk).trans k0,(cell_of_heap hbk _ _).trans k1,(cell_of_heap hbk _ _).trans k2,(cell_of_heap hbk _ _).trans k3⟩⟩
theorem Ra {aA:Int} {l:List Nk} (h:bO aA l=true):∀y∈l,iq aA y=true:=fun y hy=>by
 unfold bO at h;simp only[gD] at h;obtain ⟨k,hk⟩:=El.1 hy;exact ((lD aA l).1 h.2.2 k y hk).1
theorem Nq {aA:Int} {y:Nk} (h:iq aA y=true):(0<=y.sn/\y.sn<=1023)/\0<=(Ss y).1/\0<=(Ss y).2:=by
 unfold iq at h;simp only[gD,gY] at h;obtain ⟨⟨h1,h2⟩,_,h3⟩:=h;refine ⟨⟨h1,by omega⟩,?_⟩;unfold Ss;split
 ·rename_i hp;rw[bD hp] at h3;simp only[gD,gY] at h3;dsimp only;omega
 ·dsimp only;omega
section
variable {D F:Nat->Prop} {g:Nat} {c:Cf} {st:Sd} {vq vo:Value} {vs os:List Value} {w:World}
theorem YQ.put {aA:Int} {A:Option Addr} {n cc:Nat} {w0:World} (h:YQ w g aA A n cc w0):YQ w g aA A n cc (w0.setCell ⟨w.heap.size+1+1,0,none⟩ (.int .i64 0)):=
 ⟨h.b.setCell (p:=⟨w.heap.size+1+1,0,none⟩) (by simp;omega) _,h.s.far (p:=⟨w.heap.size+1+1,0,none⟩) (by show ¬w.heap.size=w.heap.size+1+1;omega) _,h.r.far (p:=⟨w.heap.size+1+1,0,none⟩) (by show ¬w.heap.size+1=w.heap.size+1+1;omega) _,by simpa using h.e.ay 0 (.int .i64 0),by simpa[World.setCell] using h.z⟩
theorem PU {s:Sd} {n:Nat} (h1:s.first<1024) (h2:n<=1023):eP s (n:Int)=(qi s n:Int):=by
 unfold eP qi;omega
theorem VA (c:Cf) (mi:Ou->List (Nat × Nat)) (m:Nat) (s:Sd) (h1:s.first<1024) (h2:s.polled<=1023) (b:Bool) (hb:(s.wait&&decide ((m:Int)<=eP s (s.polled:Int)))=b):
 oU c mi m s=if (ig {Im c mi s m with wait:=b}).dI=true then aX c (ig {Im c mi s m with wait:=b}) else ig {Im c mi s m with wait:=b}:=by
 have e:(s.wait&&decide (m<=qi s s.polled))=b:=by
  rw[<-hb,PU h1 h2]
  congr 1
  exact decide_eq_decide.2 (by omega)
 unfold oU;dsimp only;rw[e];rfl
structure YS (w:World) (g:Nat) (aA:Int) (A:Option Addr) (n cc:Nat) (w0:World):Prop where
 s:av w0 w 49 #[.pointer (some g)]
 r:av w0 (w+1) 133 #[aA,.slice A n cc]
 e:av w0 (w.heap.size+1+1) 53 #[.int .i64 0]
theorem YQ.x {aA:Int} {A:Option Addr} {n cc:Nat} {w0:World} (h:YQ w g aA A n cc w0):YS w g aA A n cc w0:=⟨h.s,h.r,h.e⟩
theorem YS.below {aA:Int} {A:Option Addr} {n cc:Nat} {w0 w1:World} (h:YS w g aA A n cc w0) (hb:Below w0 w0 w1):YS w g aA A n cc w1:=
 ⟨h.s.below hb h.s.lt,h.r.below hb h.r.lt,h.e.below hb h.e.lt⟩
theorem YS.kept {aA:Int} {A:Option Addr} {n cc:Nat} {w0 w1:World} (h:YS w g aA A n cc w0) (hk:Kept (fun k _=>D k) w0 w1) (hD:∀k,D k->k<w.heap.size):YS w g aA A n cc w1:=
 ⟨h.s.kept hk (fun e=>by have:=hD _ e;omega),h.r.kept hk (fun e=>by have:=hD _ e;omega),h.e.kept hk (fun e=>by have:=hD _ e;omega)⟩
theorem YS.cells {aA:Int} {A:Option Addr} {n cc:Nat} {w0:World} (h:YS w g aA A n cc w0):w0.cell? w=some (.pointer (some g))/\w0.cell? ⟨w+1,0,none⟩=some (.int .i64 aA)/\w0.cell? ⟨w+1,1,none⟩=some (.slice A n cc)/\w0.cell? ⟨w.heap.size+1+1,0,none⟩=some (.int .i64 0)/\w0.frozen? ⟨w.heap.size+1+1,0,none⟩=false:=
 ⟨h.s.cell 0,h.r.cell 0,h.r.cell 1,h.e.cell 0,h.e.frozen 0⟩
theorem Nr (h:gu w D F g c st vq vs vo os) (ht:J9 c) {K:Nat} (hB:lK st K) (hK:K<=90000) (hI:bY st) (hf:st.failed=false) (now aA:Int) (ed:now<=9223372036854775807)
 (A:Option Addr) (n cc:Nat) (fI:List Nk) (hN:dD w A n cc fI) (hAD:∀ad,A=some ad->0<n->¬D ad.block) (hv:bO aA fI=true):
 Calls prog 93 #[.pointer (some g),now,.agg #[aA,.slice A n cc]] w (Vx w D F g c (bP c st now aA fI)):=by
 have HW:=ah (YQ.mk' w g aA A n cc);have HH:=ah h;have HN:=ah hN;have Q6:=ah hAD;have HDw:=ah (show ∀k,D k->k<w.heap.size from fun k hk=>h.lt k (h.sub k hk));obtain ⟨hln,agJ,agK⟩:=CY hv;obtain ⟨s1,hs1⟩:∃s1,cO st now=s1:=⟨_,rfl⟩
 have hI1:=hI.clock now;have hB1:=hB.clock ed;have hf1:s1.failed=false:=by rw[<-hs1];exact hf
 rw[hs1] at hI1 hB1;have hm0:eP s1 aA=((eP s1 aA).toNat:Int):=by unfold eP;omega
 have hm1:(eP s1 aA).toNat<=1023:=by unfold eP;omega
 have hR:bP c st now aA fI=if (s1.out.length:Int)<eP s1 aA\/fI.any (behind s1 (eP s1 aA))=true then (s1,6) else (oU c (aQ fI) (eP s1 aA).toNat s1,if (oU c (aQ fI) (eP s1 aA).toNat s1).failed=true then 8 else 0):=by
  unfold bP kS;rw[aP (by simp[hf]),aP (by simp[hv]),hs1];rw[<-hs1];rfl
 have hpl:=fun (W:World) (hA:gu W D F g c s1 vq vs vo os)=>yM hA hI1.f aA ⟨agJ,agK⟩
 rw[hm0] at hpl hR;obtain ⟨m,hm⟩:∃m,(eP s1 aA).toNat=m:=⟨_,rfl⟩
 simp only[hm,Es] at hpl hR hm1;have Kk:=ah hpl;have HR:=ah hR;have HI1:=ah hI1;have HB1:=ah hB1;have XE:=ah hf1;have HV:=ah hv;have IQ:=ah hs1;have hT:=ht.timer.1;have HF:=ah hf;have HT:=ah ht;clear h hN hAD hI hB hI1 hB1 hf1 hm hm0 hpl hR hv hs1 ht hf
 go_enter_defers func93,ntmps93
 go_wp2_with fail;generalize ((w.alloc (.cells #[.pointer (some g)] 49)).alloc (.cells #[aA,.slice A n cc] 133)).alloc (.cells #[.int .i64 0] 53)=w0 at*;have uy:=ah (lu (HH.out.below HW.out.b) hT);rw[HF.out] at uy;simp only[mq,l7] at uy;have HW1:=ah HW.out.put;obtain ⟨-,-,-,e0,e1⟩:=HW.out.x.cells;refine uy.out.mono ?_;rintro en w1 ⟨rfl,rfl⟩;obtain ⟨-,r0,r1,-,-⟩:=HW1.out.x.cells;have HA1:=ah (HH.out.below HW1.out.b);have QI:=ah (nL (w0.setCell ⟨w.heap.size+1+1,0,none⟩ (.int .i64 0)) aA A n cc fI (HN.out.below HW1.out.b));rw[HV.out] at QI;go_wp2_with fail;clear e0 e1 r0 r1 uy HW;generalize w0.setCell ⟨w.heap.size+1+1,0,none⟩ (.int .i64 0)=w1 at*;refine QI.out.mono ?_;rintro en w2 ⟨rfl,hb2⟩;have YT:=ah (HW1.out.x.below hb2);have HA2:=ah (HA1.out.below hb2);have EQ:=ah (show Kept (fun k _=>D k) w w2 from (Kept.eZ HW1.out.b).trans (Kept.eZ hb2));have yh:=ah (Cc HA2.out now);obtain ⟨s0,-,-,-,-⟩:=YT.out.cells;rw[IQ.out] at yh;clear hb2;go_wp2_with fail;refine yh.out.mono ?_;rintro en w3 ⟨rfl,hA3,hk3⟩;have HX3:=ah (YT.out.kept hk3 HDw.out);have Cg:=ah hA3;have qR:=ah (EQ.out.trans hk3);have HP:=ah (Kk.out w3 hA3);clear s0;obtain ⟨s0,r0,r1,-,-⟩:=HX3.out.cells;clear hA3 hk3 HA2 EQ YT yh QI HA1 HW1 Kk;go_wp2_with fail;refine HP.out.mono ?_;rintro en w4 ⟨rfl,rfl⟩;go_upto_region 9 with (fail)
 have hb4:Below w3 w3 (w3.alloc (.cells #[.int .i64 (m:Int)] 3)):=(bS _ w3).alloc (aL) _;have HM4:=ah (av.new w3 3 #[.int .i64 (m:Int)]);have HX4:=ah (HX3.out.below hb4);have R3:=ah (Cg.out.below hb4);have GL:=ah (qR.out.trans (Kept.eZ hb4));have HZ4:=ah (show w.heap.size+1+1<w3.heap.size from HX3.out.e.lt);clear s0 r0 r1 hb4 HP Cg HX3 qR;generalize w3.alloc (.cells #[.int .i64 (m:Int)] 3)=w4 at*;obtain ⟨Ao,co,rfl,hso⟩:=R3.out.Ya;have Bt:=R3.out.blk.cell 12;simp[fV] at Bt;have m0:=HM4.out.cell 0;simp at m0;obtain ⟨s0,r0,r1,e0,e1⟩:=HX4.out.cells;have agL:=hso.cap;have alv:=hso.mx;have HSO:=ah hso;clear hso;by_cases hbig:(s1.out.length:Int)<(m:Int)
 ·have d1:decide ((s1.out.length:Int)<(m:Int))=true:=iK hbig;have d2:decide (s1.out.length<m)=true:=iK (by omega);have hRr:=HR.out;rw[bD (.inl hbig)] at hRr;have PV:=ah hRr;clear hbig hRr;refine wp_region_noPanic ?_
  go_quiet (fail)
  refine NoPanic.normal ?_;go_wp2;refine nD (f:=76) (args:= #[.pointer (some ⟨w.heap.size+1+1,0,none⟩)]) (by simp) (by simp[go_sem]) ?_;refine (iw _ _).mono ?_;rintro e9 u9 w9 ⟨rfl,rfl,rfl⟩;have q:=(((HX4.out.below ((bS _ w4).drewN nq)).e).ay 0 (.int .i64 6)).cell 0;simp at q;refine ⟨.int .i64 6,by simp[results,results93,go_sem,q],?_⟩;rw[PV.out];exact ⟨rfl,((R3.out.drewN nq).Cq HH.out.lt (b:=w.heap.size+1+1) (by omega) 0 _).o ((GL.out.jI nq).Cq (b:=w.heap.size+1+1) (by omega) 0 _)⟩
 ·have d1:decide ((s1.out.length:Int)<(m:Int))=false:=iP hbig;have d2:decide (s1.out.length<m)=false:=iP (by omega);have hle:m<=s1.out.length:=by omega
  have hRr:=HR.out;have hor:(((s1.out.length:Int)<(m:Int))\/fI.any (behind s1 m)=true)=(fI.any (behind s1 m)=true):=by simp only[hbig,false_or]
  simp only[hor] at hRr;have PV:=ah hRr;have HCO:=ah (fun (W:World) (hW:Below w4 w4 W)=>SA (R3.out.below hW) HI1.out.f w w3.heap.size (m:Int) (HX4.out.below hW).s (HM4.out.below hW HM4.out.lt) A n cc fI (((HN.out.Vz GL.out (fun ad e hz o=>Q6.out ad e hz))).below hW) (fun y hy=>(Nq (Ra HV.out y hy)).1));clear hbig hRr hor HR;go_cut [38] from 26 to 38 (fun s38 wx=>s38= .bool (fI.any (behind s1 m))/\Below w4 w4 wx)
  case first=>
   refine wp_region_noPanic ?_
   go_region_with (go_at_call 143;refine (HCO.out _ (by first|exact bS _ _|exact (bS _ _).drew|exact (bS _ _).drewN _)).mono ?_;rintro en w5 ⟨rfl,hb5⟩)
   all_goals
    refine NoPanic.normal ?_;go_wp2_with fail;go_meet;exact ⟨rfl,by first|exact hb5|exact (bS _ w4).drew.trans hb5|exact ((bS _ w4).drewN _).trans hb5⟩
  case rest=>
  obtain ⟨rfl,hb5⟩:=hcut;have HX5:=ah (HX4.out.below hb5);have VB:=ah (R3.out.below hb5);have zw:=ah (GL.out.trans (Kept.eZ hb5));have HM5:=ah (HM4.out.below hb5 HM4.out.lt);have On:=ah hb5;clear Bt m0 s0 r0 r1 e0 e1 HSO HCO;have Bt:=VB.out.blk.cell 12;simp[fV] at Bt;have m0:=HM5.out.cell 0;simp at m0;obtain ⟨s0,r0,r1,e0,e1⟩:=HX5.out.cells;clear hb5;cases hany:fI.any (behind s1 (m:Int)) with
  |true=>
   have hRr:=PV.out;rw[bD hany] at hRr;have HRR:=ah hRr;clear hRr hany;go_wp2;refine nD (f:=76) (args:= #[.pointer (some ⟨w.heap.size+1+1,0,none⟩)]) (by simp) (by simp[go_sem]) ?_;refine (iw _ _).mono ?_;rintro e9 u9 w9 ⟨rfl,rfl,rfl⟩;have q:=(HX5.out.e.ay 0 (.int .i64 6)).cell 0;simp at q;refine ⟨.int .i64 6,by simp[results,results93,go_sem,q],?_⟩;rw[HRR.out];exact ⟨rfl,(VB.out.Cq HH.out.lt (b:=w.heap.size+1+1) (by omega) 0 _).o (zw.out.Cq (b:=w.heap.size+1+1) (by omega) 0 _)⟩
  |false=>
   have hRr:=PV.out;rw[aP (by rw[hany];decide)] at hRr;have HRR:=ah hRr;clear hRr hany PV;have hmc:m<=co:=by omega
   go_wp2_with fail
   go_quiet (fail)
   go_wp2_with fail;have HX6:=ah (HX5.out.below ((bS _ wc).drewN nq));have HA6:=ah (VB.out.drewN nq);have zu:=ah (zw.out.jI nq);have HM6:=ah (HM5.out.below ((bS _ wc).drewN nq) HM5.out.lt);have HN6:=ah (HN.out.Vz zu.out (fun ad e hz o=>Q6.out ad e hz));clear Bt m0 s0 r0 r1 e0 e1 HX5 VB zw HM5 On R3 GL HX4 HM4;have QM:w.heap.size+1+1<w3.heap.size/\w3.heap.size<(wc.drewN nq).heap.size:=⟨HZ4.out,HM6.out.lt⟩;generalize wc.drewN nq=w6 at*;have Sb:=ah QM;clear QM
   go_loopw [46] (fun i wr=>∃k:Nat,k<=m/\i= .int .i64 k/\∃F',gu wr D F' g c (Im c (aQ fI) s1 k) vq vs (.slice Ao s1.out.length co) os/\dU w6 F F'/\Kept (fun k _=>D k) w6 wr) (fun i _=>m-(intOf i).toNat)
   case atStart=>exact ⟨0,eH _,rfl,F,by rw[Vy];exact HA6.out,dU.refl _ _,Kept.refl _ _⟩
   case round=>
    obtain ⟨k,hk,rfl,F',hA',hF',hK'⟩:=hrel;have HX':=ah (HX6.out.kept hK' HDw.out);have DU:=ah hA';have HF':=ah hF';have HK':=ah hK';obtain ⟨s0,r0,r1,e0,e1⟩:=HX'.out.cells;by_cases hlt:k<m
    ·obtain ⟨x,hx⟩:∃x,s1.out[k]? =some x:=⟨_,gX (by omega)⟩
     have hxk:(Im c (aQ fI) s1 k).out[k]? =some x:=by rw[Q9];exact hx
     obtain ⟨p,Ap,cp,vp,Ar,cr,he,ho⟩:=hA'.oe k x hxk;obtain ⟨A2,c2,e2,hso⟩:=hA'.Ya;have hll:(Im c (aQ fI) s1 k).out.length=s1.out.length:=jK _ _ _ _;rw[hll] at e2 hso;injection e2 with e3 e4 e5
     subst e3 e5;obtain ⟨ad,u,rfl,hb,hu,hc⟩:=hso.get (show k<s1.out.length by omega);rw[he] at hu;cases hu;obtain ⟨z0,z7,z8,z9,UE,Yb⟩:=ho.cells;have HXX:=ah hx;have HXK:=ah hxk;have HE:=ah he;have HO:=ah ho;have HHC:=ah hc;clear hx hxk he hll hA' hF' hK' hso z0 z7 z8 UE Yb;cases hak:x.bJ with
     |true=>
      rw[hak] at z9;have HAK:=ah hak;clear ho hak;go_wp2
      go_round
      case rel=>
       refine ⟨k+1,by omega,by go_num,F',?_,HF'.out,HK'.out⟩;rw[SC HXX.out HAK.out];exact DU.out
      case measure=>simp[intOf];omega
     |false=>
      rw[hak] at z9;have hox:=HB1.out.ou x (iT HXX.out);have hsz:=lM hox;have HMS:=ah (KS aA fI A n cc (HN6.out.Vz HK'.out (fun ad e hz o=>Q6.out ad e hz)) (by have:=HN6.out.len;omega) p x ho (fun y hy=>(Nq (Ra HV.out y hy)).2) (by omega) hsz.1);have hone:bT c (aQ fI) x=if aQ fI x= [] then ({x with bJ:=true,pend:= []},false) else fO c x (aQ fI x):=by unfold bT;rw[aP (by rw[hak];decide)]
      have YU:=ah (Nl (c:=c) (m:=aQ fI) HXX.out);have HRX:=ah (HB1.out.rx x (iT HXX.out));rw[hone] at YU;obtain ⟨l,hl⟩:∃l,aQ fI x=l:=⟨_,rfl⟩
      rw[hl] at HMS YU;clear ho hak hox hone hl hsz;go_wp2_with fail;refine HMS.out.mono ?_;rintro en w7 ⟨v,rfl,hv7,qT⟩;obtain ⟨Al,cl,rfl,hsp,hbl⟩:=fQ.eu hv7;have aoN:=hsp.cap;have aso:=hsp.mx;have TK:=ah hsp;have HBL:=ah hbl;have HX7:=ah (HX'.out.below qT);have YV:=DU.out.below qT;obtain ⟨p2,Ap2,cp2,vp2,Ar2,cr2,he2,ho7⟩:=YV.oe k x HXK.out;rw[HE.out] at he2;cases he2;have z9:=ho7.blk.cell 9;have UE:=ho7.blk.cell 10;have f9:=ho7.blk.frozen 9;have f10:=ho7.blk.frozen 10;simp[My] at z9 UE;clear s0 r0 r1 e0 e1 hc;obtain ⟨s0,-,-,-,-⟩:=HX7.out.cells;have Xl:=ah YV;have HO7:=ah ho7;have HB7:=ah qT;have TJ:=ah (HK'.out.trans (Kept.eZ qT));clear hv7 hsp hbl YV ho7 qT HMS;by_cases hl:l= []
      ·have dl:decide (0<l.length)=false:=by rw[hl];rfl
       have HL:=ah hl;clear hl;go_wp2
       go_round
       case rel=>
        obtain ⟨h1,h2⟩:=Xl.out.confirm HXK.out HE.out HO7.out;refine ⟨k+1,by omega,by go_num,F',?_,HF'.out,TJ.out.trans h2⟩;have hs:=YU.out;rw[bD HL.out] at hs;rw[hs];exact h1
       case measure=>simp[intOf];omega
      ·have dl:decide (0<l.length)=true:=iK (Iz.2 hl);obtain ⟨al,rfl,-⟩:=TK.out.at_ (Iz.2 hl);have hbl:=HBL.out al rfl;have VC:=Xl.out.aac (b:=al.block) hbl.2;obtain ⟨p3,Ap3,cp3,vp3,Ar3,cr3,he3,ho3⟩:=VC.oe k x HXK.out;rw[HE.out] at he3;cases he3;have HPD:=ah (Fu VC HXK.out HE.out ho3 TK.out (fun ad e=>by cases e;exact ⟨.inr rfl,DU.out.fresh hbl.1⟩) (by have:=HRX.out;omega));have HL:=ah hl;have Vl:=ah hbl;clear hl VC ho3 hbl;go_wp2_with fail;refine HPD.out.mono ?_;rintro en w8 ⟨rfl,VC,U1⟩;have HA8:=ah VC;have Xg:=ah U1;clear VC U1;go_wp2
       go_round
       case rel=>
        refine ⟨k+1,by omega,by go_num,fun j=>F' j\/j=al.block,?_,?_,TJ.out.trans Xg.out⟩
        ·have hs:=YU.out;rw[aP HL.out] at hs;rw[hs];exact HA8.out
        ·intro j hj;rcases hj with hj|rfl
         ·exact HF'.out j hj
         ·have:=Vl.out.1;have:=HK'.out.size;have:=zu.out.size;exact .inr (by omega)
       case measure=>simp[intOf];omega
    ·have hkm:m=k:=by omega
     subst hkm;clear hA' hF' hK';go_wp2_with fail;obtain ⟨b,hb⟩:∃b,(s1.wait&&decide ((m:Int)<=eP s1 (s1.polled:Int)))=b:=⟨_,rfl⟩
     have Kk:=ah (yM (w:=wr.drew) (st:=Im c (aQ fI) s1 m) DU.out.drew HI1.out.f (s1.polled:Int) (by have:=HB1.out.pol;omega));have Oo:=DU.out.blk.cell 15;have CZ:=DU.out.blk.cell 16;have f16:=DU.out.blk.frozen 16;have m0:=(HM6.out.kept HK'.out (fun e=>by have:=HDw.out _ e;have:=Sb.out;omega)).cell 0;simp[fV,Im] at Oo CZ m0;have Om:=ah hb;have ae2:=DU.out.blk.lt;clear hb r0 r1 e0 e1;go_cut [] from 71 to 87 (fun wx=>wx=(wr.setCell ⟨g,16,none⟩ (.bool b)).drew)
     case first=>
      cases hwt:s1.wait with
      |false=>
       have hbt:b=false:=by rw[<-Om.out,hwt];rfl
       rw[hwt] at CZ;subst hbt;clear hwt;refine wp_region_noPanic ?_;refine bX (fun w'=>w'.cell? w=some (.pointer (some g))/\w'.cell? ⟨g,16,none⟩=some (.bool false)/\w'.cell? ⟨g,15,none⟩=some (.int .i64 (s1.polled:Nat))/\w'.cell? w3=some (.int .i64 (m:Int))) [17] (by kernel_rfl) ?_;have hHeld:=(show (fun w'=>w'.cell? w=some (.pointer (some g))/\w'.cell? ⟨g,16,none⟩=some (.bool false)/\w'.cell? ⟨g,15,none⟩=some (.int .i64 (s1.polled:Nat))/\w'.cell? w3=some (.int .i64 (m:Int))) wr.drew from ⟨s0,CZ,Oo,m0⟩);refine jq [17,16,15] 0 ?_;refine jq [17,16,15] 1 ?_;refine aW 2 ?_;refine aW 3 ?_;refine jq [17,16,15] 4 ?_;refine aW 5 ?_;refine jU 6 ?_;refine jU 7 ?_;refine jU 8 ?_;refine jU 9 ?_;refine jU 10 ?_;refine jU 11 ?_;refine jU 12 ?_;refine jU 13 ?_;refine aW 14 ?_;refine aW 15 ?_;refine aW 16 ?_;refine dB (i:=17) rfl (by kernel_rfl) (by kernel_rfl) (by rfl) (fun K hK=> ?_);go_simp;refine hK _ _ ?_;clear hK K
       try simp only[Act.put,gJ]
       refine bW (by kernel_rfl) ?_ _;refine NoPanic.normal ?_;go_wp2_with fail;go_meet;rfl
      |true=>
       have hbt:decide ((m:Int)<=eP s1 (s1.polled:Int))=b:=by rw[<-Om.out,hwt];rfl
       rw[hwt] at CZ;clear hwt;refine wp_region_noPanic ?_;refine bX (fun w'=>w'.cell? w=some (.pointer (some g))/\w'.cell? ⟨g,16,none⟩=some (.bool true)/\w'.cell? ⟨g,15,none⟩=some (.int .i64 (s1.polled:Nat))/\w'.cell? w3=some (.int .i64 (m:Int))) [17] (by kernel_rfl) ?_;have hHeld:=(show (fun w'=>w'.cell? w=some (.pointer (some g))/\w'.cell? ⟨g,16,none⟩=some (.bool true)/\w'.cell? ⟨g,15,none⟩=some (.int .i64 (s1.polled:Nat))/\w'.cell? w3=some (.int .i64 (m:Int))) wr.drew from ⟨s0,CZ,Oo,m0⟩);refine jq [17,16,15] 0 ?_;refine jq [17,16,15] 1 ?_;refine aW 2 ?_;refine aW 3 ?_;refine jq [17,16,15] 4 ?_;refine aW 5 ?_;refine jq [17,16,15] 6 ?_;refine jq [17,16,15] 7 ?_;refine aW 8 ?_;refine aW 9 ?_;refine jq [17,16,15] 10 ?_;refine jq [17,16,15] 12 ?_;refine aU (i:=11) rfl (by kernel_rfl) (by rfl) (fun K hK=> ?_);go_simp;refine Kk.out.mono ?_;rintro en w8 ⟨rfl,rfl⟩;refine hK _ _ (show (fun w'=>w'.cell? w=some (.pointer (some g))/\w'.cell? ⟨g,16,none⟩=some (.bool true)/\w'.cell? ⟨g,15,none⟩=some (.int .i64 (s1.polled:Nat))/\w'.cell? w3=some (.int .i64 (m:Int))) wr.drew from ⟨s0,CZ,Oo,m0⟩) ?_;clear hK K hHeld;have hHeld:=(show (fun w'=>w'.cell? w=some (.pointer (some g))/\w'.cell? ⟨g,16,none⟩=some (.bool true)/\w'.cell? ⟨g,15,none⟩=some (.int .i64 (s1.polled:Nat))/\w'.cell? w3=some (.int .i64 (m:Int))) wr.drew from ⟨s0,CZ,Oo,m0⟩)
       try simp only[Act.put,gJ]
       refine aW 13 ?_;refine aW 14 ?_;refine aW 15 ?_;refine aW 16 ?_;refine dB (i:=17) rfl (by kernel_rfl) (by kernel_rfl) (by rfl) (fun K hK=> ?_);go_simp;refine hK _ _ ?_;clear hK K
       try simp only[Act.put,gJ]
       refine bW (by kernel_rfl) ?_ _;refine NoPanic.normal ?_;go_wp2_with fail;go_meet;show (wr.setCell _ (.bool (decide ((m:Int)<=eP s1 (s1.polled:Int))))).drew=_
       rw[hbt]
     case rest=>
     subst hcut;obtain ⟨s3,hs3⟩:∃s3,{Im c (aQ fI) s1 m with wait:=b}=s3:=⟨_,rfl⟩
     have VC:=(DU.out.rX 16 (.bool b) (st':= {Im c (aQ fI) s1 m with wait:=b}) (by simp[fV,Im]) rfl rfl).drew;have hK8:=(HK'.out.setCell (p:=⟨g,16,none⟩) (fun _ _=>DU.out.gd) (.bool b)).drew;have hSt:=VA c (aQ fI) m s1 HI1.out.f HB1.out.pol b Om.out;have hso:s3.taken=s3.front+sizes s3.out:=by
      rw[<-hs3];show s1.taken=s1.front+sizes (aT c (aQ fI) m s1.out).1
      rw[rP];exact HI1.out.tk
     have Ns:=HB1.out.held;have hle3:=HI1.out.le;have hdone:=HB1.out.done;have hq3:s3.queue=s1.queue:=by rw[<-hs3];rfl
     have hql:=xk HI1.out.pos;have hmiss:∀x∈s1.out,(∀r∈aQ fI x,r.1<=r.2/\r.2<au x)/\(aQ fI x).length<=1000:=fun x hx=>by
      have h1:=MF fI (lM (HB1.out.ou x hx)).1;exact ⟨h1.1,by have:=h1.2;omega⟩
     have hB3:lK s3 (K+1):=by rw[<-hs3];exact HB1.out.aT c (aQ fI) m hmiss _ b
     have hl3:s3.out.length<=512:=by
      rw[<-hs3];show (aT c (aQ fI) m s1.out).1.length<=512
      rw[jK];exact HI1.out.w
     rw[hs3] at VC hSt;have alA:s3.taken=s1.taken:=by rw[<-hs3];rfl
     have hf3:s3.first=s1.first:=by rw[<-hs3];rfl
     have hd3:s3.done=s1.done:=by rw[<-hs3];rfl
     have TB:aH s1=aj s1.queue:=rfl;have HAV:=ah (KW VC hso (by omega) (by rw[hf3];exact HI1.out.f) hl3 (by omega) (by rw[hq3];omega) (by rw[hq3];intro s hs;exact (HB1.out.RB s hs).2));have HX8:=ah (HX6.out.kept hK8 HDw.out);have Xg:=ah hK8;have HB3:=ah hB3;have HST:=ah hSt;have HL3:=ah hl3;have HA8:=ah VC;clear VC hK8 hSt hso Ns hle3 hdone hq3 hql hmiss hB3 hl3 alA hf3 hd3 TB Oo CZ f16 m0 s0 Kk hs3;obtain ⟨s0,-,-,-,-⟩:=HX8.out.cells;generalize (wr.setCell ⟨g,16,none⟩ (.bool b)).drew=w8 at*;go_wp2_with fail;refine HAV.out.mono ?_;rintro en w9 ⟨rfl,vq9,vs9,vo9,os9,hA9,Q0⟩;have HX9:=ah (HX8.out.kept Q0 HDw.out);have Nt:=ah hA9;have YW:=ah (Xg.out.trans Q0);have hB4:=HB3.out.adv;have hl4:(ig s3).out.length<=512:=by
      have:=HL3.out;obtain ⟨⟨d,e1,-⟩,-⟩:=jJ s3.out;have e2:s3.out.length=(d++(aV s3.out).2.2).length:=congrArg _ e1;rw[l8] at e2;show (aV s3.out).2.2.length<=512
      omega
     obtain ⟨s4,hs4⟩:∃s4,ig s3=s4:=⟨_,rfl⟩
     rw[hs4] at HST Nt hB4 hl4;have Ij:=ah hB4;have HL4:=ah hl4;have Ku:=Nt.out.blk.cell 18;simp[fV] at Ku;clear s0 hA9 Q0 hB4 hl4 hs4 HAV;obtain ⟨s0,-,-,e0,e1⟩:=HX9.out.cells;cases how:s4.dI with
     |false=>
      have HO:=ah (show pK w6 D F g c s4 w9 from ⟨D,F',vq9,vs9,vo9,os9,Nt.out,dU.refl _ _,HF'.out,YW.out⟩);have hst:=HST.out;rw[aP (by rw[how];decide)] at hst;have hrr:=HRR.out;rw[hst] at hrr;rw[how] at Ku;clear how;cases hfl:s4.failed with
      |false=>
       rw[hfl] at hrr;have HM:=ah (Fq Nt.out hfl);have I6:=ah hrr;clear hst hrr hfl;go_wp2_with fail;refine HM.out.mono ?_;rintro en w98 ⟨rfl,rfl⟩;go_wp2;refine nD (f:=76) (args:= #[.pointer (some ⟨w.heap.size+1+1,0,none⟩)]) (by simp) (by simp[go_sem]) ?_;refine (iw _ _).mono ?_;rintro e99 u99 w99 ⟨rfl,rfl,rfl⟩;have q:=(HX9.out.e.ay 0 (.int .i64 0)).cell 0;simp at q;refine ⟨.int .i64 0,by simp[results,results93,go_sem,q],?_⟩;rw[I6.out];exact ⟨rfl,HO.out.put zu.out (b:=w.heap.size+1+1) (by omega) (by have:=Sb.out;omega) HH.out.lt HH.out.sub 0 _⟩
      |true=>
       rw[hfl] at hrr;have HM:=ah (Ce Nt.out hfl);have I6:=ah hrr;clear hst hrr hfl;go_wp2_with fail;refine HM.out.mono ?_;rintro en w98 ⟨rfl,rfl⟩;refine nD (f:=76) (args:= #[.pointer (some ⟨w.heap.size+1+1,0,none⟩)]) (by simp) (by simp[go_sem]) ?_;refine (mR _ _ w9 HX9.out.e).mono ?_;rintro e99 u99 w99 ⟨rfl,rfl,rfl⟩;have q:=((HX9.out.e.alloc (.cells #[] 191)).ay 0 (.int .i64 8)).cell 0;simp at q;refine ⟨.int .i64 8,by simp[results,results93,go_sem,q],?_⟩;rw[I6.out];exact ⟨rfl,(HO.out.alloc _).put zu.out (b:=w.heap.size+1+1) (by omega) (by have:=Sb.out;omega) HH.out.lt HH.out.sub 0 _⟩
     |true=>
      have hst:=HST.out;rw[bD how] at hst;have hrr:=HRR.out;rw[hst] at hrr;rw[how] at Ku;have QH:=ah (Az Nt.out Ij.out (by omega) HL4.out);have acn:=ah hrr;clear how hst hrr;go_wp2_with fail;refine QH.out.mono ?_;rintro en WX ⟨rfl,VD⟩;have HO:=ah (pK.step YW.out (dU.refl _ _) HF'.out VD);have YX:=ah (HX6.out.kept HO.out.kept HDw.out);obtain ⟨D10,F10,ass,ast,asu,asv,VE,-,-,-⟩:=VD;have tF:=ah VE;clear s0 e0 e1 VE;obtain ⟨s0,-,-,e0,e1⟩:=YX.out.cells;obtain ⟨s5,hs5⟩:∃s5,aX c s4=s5:=⟨_,rfl⟩
      have hrr:=acn.out;rw[hs5] at hrr HO tF;have hst:=hs5;clear hs5;cases hfl:s5.failed with
      |false=>
       rw[hfl] at hrr;have HM:=ah (Fq tF.out hfl);have I6:=ah hrr;clear hst hrr hfl;go_wp2_with fail;refine HM.out.mono ?_;rintro en w98 ⟨rfl,rfl⟩;go_wp2;refine nD (f:=76) (args:= #[.pointer (some ⟨w.heap.size+1+1,0,none⟩)]) (by simp) (by simp[go_sem]) ?_;refine (iw _ _).mono ?_;rintro e99 u99 w99 ⟨rfl,rfl,rfl⟩;have q:=(YX.out.e.ay 0 (.int .i64 0)).cell 0;simp at q;refine ⟨.int .i64 0,by simp[results,results93,go_sem,q],?_⟩;rw[I6.out];exact ⟨rfl,HO.out.put zu.out (b:=w.heap.size+1+1) (by omega) (by have:=Sb.out;omega) HH.out.lt HH.out.sub 0 _⟩
      |true=>
       rw[hfl] at hrr;have HM:=ah (Ce tF.out hfl);have I6:=ah hrr;clear hst hrr hfl;go_wp2_with fail;refine HM.out.mono ?_;rintro en w98 ⟨rfl,rfl⟩;refine nD (f:=76) (args:= #[.pointer (some ⟨w.heap.size+1+1,0,none⟩)]) (by simp) (by simp[go_sem]) ?_;refine (mR _ _ WX YX.out.e).mono ?_;rintro e99 u99 w99 ⟨rfl,rfl,rfl⟩;have q:=((YX.out.e.alloc (.cells #[] 191)).ay 0 (.int .i64 8)).cell 0;simp at q;refine ⟨.int .i64 8,by simp[results,results93,go_sem,q],?_⟩;rw[I6.out];exact ⟨rfl,(HO.out.alloc _).put zu.out (b:=w.heap.size+1+1) (by omega) (by have:=Sb.out;omega) HH.out.lt HH.out.sub 0 _⟩
end
end Go.Proofs.YtbhiklnljiehiaaGreat
