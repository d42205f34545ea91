/- Status: the report's answers are noted. -/
import Derived.Test.YtbhiklnljiehiaaGreatM2bc
import Derived.Test.YtbhiklnljiehiaaGreatM2bd
namespace Go.Proofs.YtbhiklnljiehiaaGreat
section
open Go.RowKit Go.Shelf
attribute [local go_sem] Oper.semAt_some
theorem bM.PV {w w':World} {A:Option Addr} {n c:Nat} {l:List Nk} {M:Nat→Obj→Prop} (h:bM w A n c l) (hk:Kept M w w') (hM:∀ad,A=some ad→0<n→∀o,¬M ad.block o):bM w' A n c l:=
 ⟨h.len,h.cap,h.mx,fun hn=>by
  obtain ⟨ad,e,hlt,hc⟩:=h.at_ hn;have h1:=Array.getElem?_eq_getElem hlt;have hb:w'.heap[ad.block]? =w.heap[ad.block]? :=by rw[hk.same _ _ h1 (hM ad e hn _),h1]
  refine ⟨ad,e,Nat.lt_of_lt_of_le hlt hk.size,fun j r hr=> ?_⟩;obtain ⟨k0,k1,k2,k3⟩:=hc j r hr;have hbk:w'.heap[(ad.add (j*4)).block]? =w.heap[(ad.add (j*4)).block]? :=by rw[block_add];exact hb
  exact ⟨(World.cell?_of_block (a:=ad.add (j*4)) hbk).trans k0,(cell_of_heap hbk _ _).trans k1,(cell_of_heap hbk _ _).trans k2,(cell_of_heap hbk _ _).trans k3⟩⟩
theorem KW {aL:Int} {l:List Nk} (h:dm aL l=true):∀y∈l,iD aL y=true:=fun y hy=>by
 unfold dm at h;simp only[Bool.and_eq_true] at h;obtain ⟨k,hk⟩:=List.mem_iff_getElem?.1 hy;exact ((jU aL l).1 h.2.2 k y hk).1
theorem GB {aL:Int} {y:Nk} (h:iD aL y=true):(0≤y.sn∧y.sn≤1023)∧0≤(Mr y).1∧0≤(Mr y).2:=by
 unfold iD at h;simp only[Bool.and_eq_true,decide_eq_true_eq] at h;obtain ⟨⟨h1,h2⟩,_,h3⟩:=h;refine ⟨⟨h1,by omega⟩,?_⟩;unfold Mr;split
 ·rename_i hp;rw[if_pos hp] at h3;simp only[Bool.and_eq_true,decide_eq_true_eq] at h3;dsimp only;omega
 ·dsimp only;omega
section
variable {D F:Nat→Prop} {g:Nat} {c:Cf} {st:Sd} {vq vo:Value} {vs os:List Value} {w:World}
theorem Tn.put {aL:Int} {A:Option Addr} {n cc:Nat} {w0:World} (h:Tn w g aL A n cc w0):Tn w g aL A n cc (w0.setCell ⟨w.heap.size+1+1,0,none⟩ (.int .i64 0)):=
 ⟨h.b.setCell (p:=⟨w.heap.size+1+1,0,none⟩) (by simp;omega) _,h.s.far (p:=⟨w.heap.size+1+1,0,none⟩) (by show ¬w.heap.size=w.heap.size+1+1;omega) _,h.r.far (p:=⟨w.heap.size+1+1,0,none⟩) (by show ¬w.heap.size+1=w.heap.size+1+1;omega) _,by simpa using h.e.av 0 (.int .i64 0),by simpa[World.setCell] using h.z⟩
theorem JJ {s:Sd} {n:Nat} (h1:s.first<1024) (h2:n≤1023):dW s (n:Int)=(iA s n:Int):=by
 unfold dW iA;omega
theorem PW (c:Cf) (mi:Ou→List (Nat × Nat)) (m:Nat) (s:Sd) (h1:s.first<1024) (h2:s.polled≤1023) (b:Bool) (hb:(s.wait&&decide ((m:Int)≤dW s (s.polled:Int)))=b):
 iP c mi m s=if (eD {BL c mi s m with wait:=b}).eB=true then bQ c (eD {BL c mi s m with wait:=b}) else eD {BL c mi s m with wait:=b}:=by
 have e:(s.wait&&decide (m≤iA s s.polled))=b:=by
  rw[←hb,JJ h1 h2]
  congr 1
  exact decide_eq_decide.2 (by omega)
 unfold iP;dsimp only;rw[e];rfl
structure Tq (w:World) (g:Nat) (aL:Int) (A:Option Addr) (n cc:Nat) (w0:World):Prop where
 s:au w0 w.heap.size 49 #[.pointer (some ⟨g,0,none⟩)]
 r:au w0 (w.heap.size+1) 133 #[.int .i64 aL,.slice A n cc]
 e:au w0 (w.heap.size+1+1) 53 #[.int .i64 0]
theorem Tn.x {aL:Int} {A:Option Addr} {n cc:Nat} {w0:World} (h:Tn w g aL A n cc w0):Tq w g aL A n cc w0:=⟨h.s,h.r,h.e⟩
theorem Tq.below {aL:Int} {A:Option Addr} {n cc:Nat} {w0 w1:World} (h:Tq w g aL A n cc w0) (hb:Below w0.heap.size w0 w1):Tq w g aL A n cc w1:=
 ⟨h.s.below hb h.s.lt,h.r.below hb h.r.lt,h.e.below hb h.e.lt⟩
theorem Tq.kept {aL:Int} {A:Option Addr} {n cc:Nat} {w0 w1:World} (h:Tq w g aL A n cc w0) (hk:Kept (fun k _=>D k) w0 w1) (hD:∀k,D k→k<w.heap.size):Tq w g aL A n cc w1:=
 ⟨h.s.kept hk (fun e=>by have:=hD _ e;omega),h.r.kept hk (fun e=>by have:=hD _ e;omega),h.e.kept hk (fun e=>by have:=hD _ e;omega)⟩
theorem Tq.cells {aL:Int} {A:Option Addr} {n cc:Nat} {w0:World} (h:Tq w g aL A n cc w0):w0.cell? ⟨w.heap.size,0,none⟩=some (.pointer (some ⟨g,0,none⟩))∧w0.cell? ⟨w.heap.size+1,0,none⟩=some (.int .i64 aL)∧w0.cell? ⟨w.heap.size+1,1,none⟩=some (.slice A n cc)∧w0.cell? ⟨w.heap.size+1+1,0,none⟩=some (.int .i64 0)∧w0.frozen? ⟨w.heap.size+1+1,0,none⟩=false:=
 ⟨h.s.cell 0,h.r.cell 0,h.r.cell 1,h.e.cell 0,h.e.frozen 0⟩
set_option maxRecDepth 100000 in
set_option maxHeartbeats 4000000 in
theorem GD (h:dV w D F g c st vq vs vo os) (ht:Ol c) {K:Nat} (hB:jF st K) (hK:K≤90000) (hI:bS st) (hf:st.failed=false) (now aL:Int) (eP:now≤9223372036854775807)
 (A:Option Addr) (n cc:Nat) (dO:List Nk) (hN:bM w A n cc dO) (hAD:∀ad,A=some ad→0<n→¬D ad.block) (hv:dm aL dO=true):
 Calls Tryz.prog 93 #[.pointer (some ⟨g,0,none⟩),.int .i64 now,.agg #[.int .i64 aL,.slice A n cc]] w (PR w D F g c (dB c st now aL dO)):=by
 have HW:=ah (Tn.mk' w g aL A n cc);have HH:=ah h;have HN:=ah hN;have KV:=ah hAD;have YT:=ah (show ∀k,D k→k<w.heap.size from fun k hk=>h.lt k (h.sub k hk));obtain ⟨hln,aaN,aaO⟩:=wV hv;obtain ⟨s1,hs1⟩:∃s1,cK st now=s1:=⟨_,rfl⟩
 have hI1:=hI.clock now;have hB1:=hB.clock eP;have hf1:s1.failed=false:=by rw[←hs1];exact hf
 rw[hs1] at hI1 hB1;have hm0:dW s1 aL=((dW s1 aL).toNat:Int):=by unfold dW;omega
 have hm1:(dW s1 aL).toNat≤1023:=by unfold dW;omega
 have hR:dB c st now aL dO=if (s1.out.length:Int)<dW s1 aL∨dO.any (behind s1 (dW s1 aL))=true then (s1,6) else (iP c (bT dO) (dW s1 aL).toNat s1,if (iP c (bT dO) (dW s1 aL).toNat s1).failed=true then 8 else 0):=by
  unfold dB l8;rw[if_neg (by simp[hf]),if_neg (by simp[hv]),hs1];rw[←hs1];rfl
 have hpl:=fun (W:World) (hA:dV W D F g c s1 vq vs vo os)=>rY hA hI1.f aL ⟨aaN,aaO⟩
 rw[hm0] at hpl hR;obtain ⟨m,hm⟩:∃m,(dW s1 aL).toNat=m:=⟨_,rfl⟩
 simp only[hm,Int.toNat_natCast] at hpl hR hm1;have Bo:=ah hpl;have HR:=ah hR;have HI1:=ah hI1;have HB1:=ah hB1;have RA:=ah hf1;have HV:=ah hv;have rU:=ah hs1;have hT:=ht.timer.1;have HF:=ah hf;have HT:=ah ht;clear h hN hAD hI hB hI1 hB1 hf1 hm hm0 hpl hR hv hs1 ht hf
 go_enter_defers Tryz.func93,Tryz.ntmps93
 go_wp2_with fail;generalize ((w.alloc (.cells #[.pointer (some ⟨g,0,none⟩)] 49)).alloc (.cells #[.int .i64 aL,.slice A n cc] 133)).alloc (.cells #[.int .i64 0] 53)=w0 at*;have kW:=ah (fP (HH.out.below HW.out.b) hT);rw[HF.out] at kW;simp only[Bool.false_eq_true,if_false] at kW;have HW1:=ah HW.out.put;obtain ⟨-,-,-,e0,e1⟩:=HW.out.x.cells;refine kW.out.mono ?_;rintro en w1 ⟨rfl,rfl⟩;obtain ⟨-,r0,r1,-,-⟩:=HW1.out.x.cells;have HA1:=ah (HH.out.below HW1.out.b);have KE:=ah (jV (w0.setCell ⟨w.heap.size+1+1,0,none⟩ (.int .i64 0)) aL A n cc dO (HN.out.below HW1.out.b));rw[HV.out] at KE;go_wp2_with fail;clear e0 e1 r0 r1 kW HW;generalize w0.setCell ⟨w.heap.size+1+1,0,none⟩ (.int .i64 0)=w1 at*;refine KE.out.mono ?_;rintro en w2 ⟨rfl,hb2⟩;have PX:=ah (HW1.out.x.below hb2);have HA2:=ah (HA1.out.below hb2);have wG:=ah (show Kept (fun k _=>D k) w w2 from (Kept.dD HW1.out.b).trans (Kept.dD hb2));have rH:=ah (vV HA2.out now);obtain ⟨s0,-,-,-,-⟩:=PX.out.cells;rw[rU.out] at rH;clear hb2;go_wp2_with fail;refine rH.out.mono ?_;rintro en w3 ⟨rfl,hA3,hk3⟩;have HX3:=ah (PX.out.kept hk3 YT.out);have wh:=ah hA3;have lX:=ah (wG.out.trans hk3);have HP:=ah (Bo.out w3 hA3);clear s0;obtain ⟨s0,r0,r1,-,-⟩:=HX3.out.cells;clear hA3 hk3 HA2 wG PX rH KE HA1 HW1 Bo;go_wp2_with fail;refine HP.out.mono ?_;rintro en w4 ⟨rfl,rfl⟩;go_upto_region 9 with (fail)
 have hb4:Below w3.heap.size w3 (w3.alloc (.cells #[.int .i64 (m:Int)] 3)):=(Below.refl _ w3).alloc (aN) _;have YU:=ah (au.new w3 3 #[.int .i64 (m:Int)]);have HX4:=ah (HX3.out.below hb4);have MG:=ah (wh.out.below hb4);have xB:=ah (lX.out.trans (Kept.dD hb4));have HZ4:=ah (show w.heap.size+1+1<w3.heap.size from HX3.out.e.lt);clear s0 r0 r1 hb4 HP wh HX3 lX;generalize w3.alloc (.cells #[.int .i64 (m:Int)] 3)=w4 at*;obtain ⟨Ao,co,rfl,hso⟩:=MG.out.Om;have sP:=MG.out.blk.cell 12;simp[dS] at sP;have m0:=YU.out.cell 0;simp at m0;obtain ⟨s0,r0,r1,e0,e1⟩:=HX4.out.cells;have U1:=hso.cap;have aav:=hso.mx;have HSO:=ah hso;clear hso;by_cases hbig:(s1.out.length:Int)<(m:Int)
 ·have d1:decide ((s1.out.length:Int)<(m:Int))=true:=decide_eq_true hbig;have d2:decide (s1.out.length<m)=true:=decide_eq_true (by omega);have hRr:=HR.out;rw[if_pos (.inl hbig)] at hRr;have JK:=ah hRr;clear hbig hRr;refine wp_region_noPanic ?_
  go_quiet (fail)
  refine NoPanic.normal ?_;go_wp2;refine leaves_cons (f:=76) (args:= #[.pointer (some ⟨w.heap.size+1+1,0,none⟩)]) (by simp) (by simp[go_sem]) ?_;refine (eZ _ _).mono ?_;rintro e9 u9 w9 ⟨rfl,rfl,rfl⟩;have q:=(((HX4.out.below ((Below.refl _ w4).drewN nq)).e).av 0 (.int .i64 6)).cell 0;simp at q;refine ⟨.int .i64 6,by simp[results,Tryz.results93,go_sem,q],?_⟩;rw[JK.out];exact ⟨rfl,((MG.out.drewN nq).vY HH.out.lt (b:=w.heap.size+1+1) (by omega) 0 _).o ((xB.out.iy nq).vY (b:=w.heap.size+1+1) (by omega) 0 _)⟩
 ·have d1:decide ((s1.out.length:Int)<(m:Int))=false:=decide_eq_false hbig;have d2:decide (s1.out.length<m)=false:=decide_eq_false (by omega);have hle:m≤s1.out.length:=by omega
  have hRr:=HR.out;have hor:(((s1.out.length:Int)<(m:Int))∨dO.any (behind s1 m)=true)=(dO.any (behind s1 m)=true):=by simp only[hbig,false_or]
  simp only[hor] at hRr;have JK:=ah hRr;have HCO:=ah (fun (W:World) (hW:Below w4.heap.size w4 W)=>My (MG.out.below hW) HI1.out.f w.heap.size w3.heap.size (m:Int) (HX4.out.below hW).s (YU.out.below hW YU.out.lt) A n cc dO (((HN.out.PV xB.out (fun ad e hz o=>KV.out ad e hz))).below hW) (fun y hy=>(GB (KW HV.out y hy)).1));clear hbig hRr hor HR;go_cut [38] from 26 to 38 (fun s38 wx=>s38= .bool (dO.any (behind s1 m))∧Below w4.heap.size w4 wx)
  case first=>
   refine wp_region_noPanic ?_
   go_region_with (go_at_call 143;refine (HCO.out _ (by first|exact Below.refl _ _|exact (Below.refl _ _).drew|exact (Below.refl _ _).drewN _)).mono ?_;rintro en w5 ⟨rfl,hb5⟩)
   all_goals
    refine NoPanic.normal ?_;go_wp2_with fail;go_meet;exact ⟨rfl,by first|exact hb5|exact (Below.refl _ w4).drew.trans hb5|exact ((Below.refl _ w4).drewN _).trans hb5⟩
  case rest=>
  obtain ⟨rfl,hb5⟩:=hcut;have HX5:=ah (HX4.out.below hb5);have PY:=ah (MG.out.below hb5);have rD:=ah (xB.out.trans (Kept.dD hb5));have Xm:=ah (YU.out.below hb5 YU.out.lt);have E4:=ah hb5;clear sP m0 s0 r0 r1 e0 e1 HSO HCO;have sP:=PY.out.blk.cell 12;simp[dS] at sP;have m0:=Xm.out.cell 0;simp at m0;obtain ⟨s0,r0,r1,e0,e1⟩:=HX5.out.cells;clear hb5;cases hany:dO.any (behind s1 (m:Int)) with
  |true=>
   have hRr:=JK.out;rw[if_pos hany] at hRr;have HRR:=ah hRr;clear hRr hany;go_wp2;refine leaves_cons (f:=76) (args:= #[.pointer (some ⟨w.heap.size+1+1,0,none⟩)]) (by simp) (by simp[go_sem]) ?_;refine (eZ _ _).mono ?_;rintro e9 u9 w9 ⟨rfl,rfl,rfl⟩;have q:=(HX5.out.e.av 0 (.int .i64 6)).cell 0;simp at q;refine ⟨.int .i64 6,by simp[results,Tryz.results93,go_sem,q],?_⟩;rw[HRR.out];exact ⟨rfl,(PY.out.vY HH.out.lt (b:=w.heap.size+1+1) (by omega) 0 _).o (rD.out.vY (b:=w.heap.size+1+1) (by omega) 0 _)⟩
  |false=>
   have hRr:=JK.out;rw[if_neg (by rw[hany];decide)] at hRr;have HRR:=ah hRr;clear hRr hany JK;have hmc:m≤co:=by omega
   go_wp2_with fail
   go_quiet (fail)
   go_wp2_with fail;have HX6:=ah (HX5.out.below ((Below.refl _ wc).drewN nq));have HA6:=ah (PY.out.drewN nq);have tF:=ah (rD.out.iy nq);have HM6:=ah (Xm.out.below ((Below.refl _ wc).drewN nq) Xm.out.lt);have HN6:=ah (HN.out.PV tF.out (fun ad e hz o=>KV.out ad e hz));clear sP m0 s0 r0 r1 e0 e1 HX5 PY rD Xm E4 MG xB HX4 YU;have KG:w.heap.size+1+1<w3.heap.size∧w3.heap.size<(wc.drewN nq).heap.size:=⟨HZ4.out,HM6.out.lt⟩;generalize wc.drewN nq=w6 at*;have LQ:=ah KG;clear KG
   go_loopw [46] (fun i wr=>∃k:Nat,k≤m∧i= .int .i64 k∧∃F',dV wr D F' g c (BL c (bT dO) s1 k) vq vs (.slice Ao s1.out.length co) os∧bW w6 F F'∧Kept (fun k _=>D k) w6 wr) (fun i _=>m-(intOf i).toNat)
   case atStart=>exact ⟨0,Nat.zero_le _,rfl,F,by rw[PT];exact HA6.out,bW.refl _ _,Kept.refl _ _⟩
   case round=>
    obtain ⟨k,hk,rfl,F',hA',hF',hK'⟩:=hrel;have HX':=ah (HX6.out.kept hK' YT.out);have xP:=ah hA';have HF':=ah hF';have YV:=ah hK';obtain ⟨s0,r0,r1,e0,e1⟩:=HX'.out.cells;by_cases hlt:k<m
    ·obtain ⟨x,hx⟩:∃x,s1.out[k]? =some x:=⟨_,List.getElem?_eq_getElem (by omega)⟩
     have hxk:(BL c (bT dO) s1 k).out[k]? =some x:=by rw[KU];exact hx
     obtain ⟨p,Ap,cp,vp,Ar,cr,he,ho⟩:=hA'.oe k x hxk;obtain ⟨A2,c2,e2,hso⟩:=hA'.Om;have hll:(BL c (bT dO) s1 k).out.length=s1.out.length:=jl _ _ _ _;rw[hll] at e2 hso;injection e2 with e3 e4 e5
     subst e3 e5;obtain ⟨ad,u,rfl,hb,hu,hc⟩:=hso.get (show k<s1.out.length by omega);rw[he] at hu;cases hu;obtain ⟨z0,z7,z8,z9,KR,Tj⟩:=ho.cells;have Vd:=ah hx;have UX:=ah hxk;have HE:=ah he;have HO:=ah ho;have HHC:=ah hc;clear hx hxk he hll hA' hF' hK' hso z0 z7 z8 KR Tj;cases hak:x.aX with
     |true=>
      rw[hak] at z9;have HAK:=ah hak;clear ho hak;go_wp2
      go_round
      case rel=>
       refine ⟨k+1,by omega,by go_num,F',?_,HF'.out,YV.out⟩;rw[MF Vd.out HAK.out];exact xP.out
      case measure=>simp[intOf];omega
     |false=>
      rw[hak] at z9;have hox:=HB1.out.ou x (List.mem_of_getElem? Vd.out);have hsz:=gX hox;have HMS:=ah (Eo aL dO A n cc (HN6.out.PV YV.out (fun ad e hz o=>KV.out ad e hz)) (by have:=HN6.out.len;omega) p x ho (fun y hy=>(GB (KW HV.out y hy)).2) (by omega) hsz.1);have hone:bY c (bT dO) x=if bT dO x= [] then ({x with aX:=true,pend:= []},false) else gQ c x (bT dO x):=by unfold bY;rw[if_neg (by rw[hak];decide)]
      have Tt:=ah (Gx (c:=c) (m:=bT dO) Vd.out);have HRX:=ah (HB1.out.rx x (List.mem_of_getElem? Vd.out));rw[hone] at Tt;obtain ⟨l,hl⟩:∃l,bT dO x=l:=⟨_,rfl⟩
      rw[hl] at HMS Tt;clear ho hak hox hone hl hsz;go_wp2_with fail;refine HMS.out.mono ?_;rintro en w7 ⟨v,rfl,hv7,pz⟩;obtain ⟨Al,cl,rfl,hsp,hbl⟩:=dG.cB hv7;have ais:=hsp.cap;have alH:=hsp.mx;have KQ:=ah hsp;have Xf:=ah hbl;have HX7:=ah (HX'.out.below pz);have Tv:=xP.out.below pz;obtain ⟨p2,Ap2,cp2,vp2,Ar2,cr2,he2,YW⟩:=Tv.oe k x UX.out;rw[HE.out] at he2;cases he2;have z9:=YW.blk.cell 9;have KR:=YW.blk.cell 10;have f9:=YW.blk.frozen 9;have f10:=YW.blk.frozen 10;simp[DN] at z9 KR;clear s0 r0 r1 e0 e1 hc;obtain ⟨s0,-,-,-,-⟩:=HX7.out.cells;have Rh:=ah Tv;have HO7:=ah YW;have HB7:=ah pz;have NA:=ah (YV.out.trans (Kept.dD pz));clear hv7 hsp hbl Tv YW pz HMS;by_cases hl:l= []
      ·have dl:decide (0<l.length)=false:=by rw[hl];rfl
       have HL:=ah hl;clear hl;go_wp2
       go_round
       case rel=>
        obtain ⟨h1,h2⟩:=Rh.out.confirm UX.out HE.out HO7.out;refine ⟨k+1,by omega,by go_num,F',?_,HF'.out,NA.out.trans h2⟩;have hs:=Tt.out;rw[if_pos HL.out] at hs;rw[hs];exact h1
       case measure=>simp[intOf];omega
      ·have dl:decide (0<l.length)=true:=decide_eq_true (List.length_pos_iff.2 hl);obtain ⟨al,rfl,-⟩:=KQ.out.at_ (List.length_pos_iff.2 hl);have hbl:=Xf.out al rfl;have PZ:=Rh.out.UU (b:=al.block) hbl.2;obtain ⟨p3,Ap3,cp3,vp3,Ar3,cr3,he3,ho3⟩:=PZ.oe k x UX.out;rw[HE.out] at he3;cases he3;have HPD:=ah (zM PZ UX.out HE.out ho3 KQ.out (fun ad e=>by cases e;exact ⟨.inr rfl,xP.out.fresh hbl.1⟩) (by have:=HRX.out;omega));have HL:=ah hl;have Pq:=ah hbl;clear hl PZ ho3 hbl;go_wp2_with fail;refine HPD.out.mono ?_;rintro en w8 ⟨rfl,PZ,OC⟩;have HA8:=ah PZ;have QY:=ah OC;clear PZ OC;go_wp2
       go_round
       case rel=>
        refine ⟨k+1,by omega,by go_num,fun j=>F' j∨j=al.block,?_,?_,NA.out.trans QY.out⟩
        ·have hs:=Tt.out;rw[if_neg HL.out] at hs;rw[hs];exact HA8.out
        ·intro j hj;rcases hj with hj|rfl
         ·exact HF'.out j hj
         ·have:=Pq.out.1;have:=YV.out.size;have:=tF.out.size;exact .inr (by omega)
       case measure=>simp[intOf];omega
    ·have hkm:m=k:=by omega
     subst hkm;clear hA' hF' hK';go_wp2_with fail;obtain ⟨b,hb⟩:∃b,(s1.wait&&decide ((m:Int)≤dW s1 (s1.polled:Int)))=b:=⟨_,rfl⟩
     have Bo:=ah (rY (w:=wr.drew) (st:=BL c (bT dO) s1 m) xP.out.drew HI1.out.f (s1.polled:Int) (by have:=HB1.out.pol;omega));have IA:=xP.out.blk.cell 15;have wS:=xP.out.blk.cell 16;have f16:=xP.out.blk.frozen 16;have m0:=(HM6.out.kept YV.out (fun e=>by have:=YT.out _ e;have:=LQ.out;omega)).cell 0;simp[dS,BL] at IA wS m0;have yV:=ah hb;have Zd:=xP.out.blk.lt;clear hb r0 r1 e0 e1;go_cut [] from 71 to 87 (fun wx=>wx=(wr.setCell ⟨g,16,none⟩ (.bool b)).drew)
     case first=>
      cases hwt:s1.wait with
      |false=>
       have hbt:b=false:=by rw[←yV.out,hwt];rfl
       rw[hwt] at wS;subst hbt;clear hwt;refine wp_region_noPanic ?_;refine aZ (fun w'=>w'.cell? ⟨w.heap.size,0,none⟩=some (.pointer (some ⟨g,0,none⟩))∧w'.cell? ⟨g,16,none⟩=some (.bool false)∧w'.cell? ⟨g,15,none⟩=some (.int .i64 (s1.polled:Nat))∧w'.cell? ⟨w3.heap.size,0,none⟩=some (.int .i64 (m:Int))) [17] (by kernel_rfl) ?_;have hHeld:=(show (fun w'=>w'.cell? ⟨w.heap.size,0,none⟩=some (.pointer (some ⟨g,0,none⟩))∧w'.cell? ⟨g,16,none⟩=some (.bool false)∧w'.cell? ⟨g,15,none⟩=some (.int .i64 (s1.polled:Nat))∧w'.cell? ⟨w3.heap.size,0,none⟩=some (.int .i64 (m:Int))) wr.drew from ⟨s0,wS,IA,m0⟩);refine gV [17,16,15] 0 ?_ rfl (Or.inl ⟨by rfl,?_⟩) hHeld ?_;rotate_left
       ·intro w' hSw;obtain ⟨hS1,hS2,gH,kS⟩:=hSw;go_simp
        try with_reducible rfl
       try simp only[Act.put,aB,aC,ax,ay,aA]
       refine gV [17,16,15] 1 ?_ rfl (Or.inl ⟨by rfl,?_⟩) hHeld ?_;rotate_left
       ·intro w' hSw;obtain ⟨hS1,hS2,gH,kS⟩:=hSw;go_simp
        try with_reducible rfl
       try simp only[Act.put,aB,aC,aD,ax,ay,aA]
       refine aY 2 rfl hHeld ?_
       try simp only[Act.put,aB,aC,aD,ax,ay,aA]
       refine aY 3 rfl hHeld ?_
       try simp only[Act.put,aB,aC,aD,ax,ay,aA]
       refine gV [17,16,15] 4 ?_ rfl (Or.inl ⟨by rfl,?_⟩) hHeld ?_;rotate_left
       ·intro w' hSw;obtain ⟨hS1,hS2,gH,kS⟩:=hSw;go_simp
        try with_reducible rfl
       try simp only[Act.put,aB,aC,aD,ax,ay,aA]
       refine aY 5 rfl hHeld ?_
       try simp only[Act.put,aB,aC,aD,ax,ay,aA]
       refine jL 6 rfl hHeld ?_
       try simp only[Act.put,aB,aC,aD,ax,ay,aA]
       refine jL 7 rfl hHeld ?_
       try simp only[Act.put,aB,aC,aD,ax,ay,aA]
       refine jL 8 rfl hHeld ?_
       try simp only[Act.put,aB,aC,aD,ax,ay,aA]
       refine jL 9 rfl hHeld ?_
       try simp only[Act.put,aB,aC,aD,ax,ay,aA]
       refine jL 10 rfl hHeld ?_
       try simp only[Act.put,aB,aC,aD,ax,ay,aA]
       refine jL 11 rfl hHeld ?_
       try simp only[Act.put,aB,aC,aD,ax,ay,aA]
       refine jL 12 rfl hHeld ?_
       try simp only[Act.put,aB,aC,aD,ax,ay,aA]
       refine jL 13 rfl hHeld ?_
       try simp only[Act.put,aB,aC,aD,ax,ay,aA]
       refine aY 14 rfl hHeld ?_
       try simp only[Act.put,aB,aC,aD,ax,ay,aA]
       refine aY 15 rfl hHeld ?_
       try simp only[Act.put,aB,aC,aD,ax,ay,aA]
       refine aY 16 rfl hHeld ?_
       try simp only[Act.put,aB,aC,aD,ax,ay,aA]
       refine bD (i:=17) rfl (by kernel_rfl) (by kernel_rfl) (by rfl) (fun K hK=> ?_);go_simp;refine hK _ _ ?_;clear hK K
       try simp only[Act.put,aB,aC,aD,ax,ay,aA]
       refine bu (by kernel_rfl) ?_ _;refine NoPanic.normal ?_;go_wp2_with fail;go_meet;rfl
      |true=>
       have hbt:decide ((m:Int)≤dW s1 (s1.polled:Int))=b:=by rw[←yV.out,hwt];rfl
       rw[hwt] at wS;clear hwt;refine wp_region_noPanic ?_;refine aZ (fun w'=>w'.cell? ⟨w.heap.size,0,none⟩=some (.pointer (some ⟨g,0,none⟩))∧w'.cell? ⟨g,16,none⟩=some (.bool true)∧w'.cell? ⟨g,15,none⟩=some (.int .i64 (s1.polled:Nat))∧w'.cell? ⟨w3.heap.size,0,none⟩=some (.int .i64 (m:Int))) [17] (by kernel_rfl) ?_;have hHeld:=(show (fun w'=>w'.cell? ⟨w.heap.size,0,none⟩=some (.pointer (some ⟨g,0,none⟩))∧w'.cell? ⟨g,16,none⟩=some (.bool true)∧w'.cell? ⟨g,15,none⟩=some (.int .i64 (s1.polled:Nat))∧w'.cell? ⟨w3.heap.size,0,none⟩=some (.int .i64 (m:Int))) wr.drew from ⟨s0,wS,IA,m0⟩);refine gV [17,16,15] 0 ?_ rfl (Or.inl ⟨by rfl,?_⟩) hHeld ?_;rotate_left
       ·intro w' hSw;obtain ⟨hS1,hS2,gH,kS⟩:=hSw;go_simp
        try with_reducible rfl
       try simp only[Act.put,aB,aC,ax,ay,aA]
       refine gV [17,16,15] 1 ?_ rfl (Or.inl ⟨by rfl,?_⟩) hHeld ?_;rotate_left
       ·intro w' hSw;obtain ⟨hS1,hS2,gH,kS⟩:=hSw;go_simp
        try with_reducible rfl
       try simp only[Act.put,aB,aC,aD,ax,ay,aA]
       refine aY 2 rfl hHeld ?_
       try simp only[Act.put,aB,aC,aD,ax,ay,aA]
       refine aY 3 rfl hHeld ?_
       try simp only[Act.put,aB,aC,aD,ax,ay,aA]
       refine gV [17,16,15] 4 ?_ rfl (Or.inl ⟨by rfl,?_⟩) hHeld ?_;rotate_left
       ·intro w' hSw;obtain ⟨hS1,hS2,gH,kS⟩:=hSw;go_simp
        try with_reducible rfl
       try simp only[Act.put,aB,aC,aD,ax,ay,aA]
       refine aY 5 rfl hHeld ?_
       try simp only[Act.put,aB,aC,aD,ax,ay,aA]
       refine gV [17,16,15] 6 ?_ rfl (Or.inl ⟨by rfl,?_⟩) hHeld ?_;rotate_left
       ·intro w' hSw;obtain ⟨hS1,hS2,gH,kS⟩:=hSw;go_simp
        try with_reducible rfl
       try simp only[Act.put,aB,aC,aD,ax,ay,aA]
       refine gV [17,16,15] 7 ?_ rfl (Or.inl ⟨by rfl,?_⟩) hHeld ?_;rotate_left
       ·intro w' hSw;obtain ⟨hS1,hS2,gH,kS⟩:=hSw;go_simp
        try with_reducible rfl
       try simp only[Act.put,aB,aC,aD,ax,ay,aA]
       refine aY 8 rfl hHeld ?_
       try simp only[Act.put,aB,aC,aD,ax,ay,aA]
       refine aY 9 rfl hHeld ?_
       try simp only[Act.put,aB,aC,aD,ax,ay,aA]
       refine gV [17,16,15] 10 ?_ rfl (Or.inl ⟨by rfl,?_⟩) hHeld ?_;rotate_left
       ·intro w' hSw;obtain ⟨hS1,hS2,gH,kS⟩:=hSw;go_simp
        try with_reducible rfl
       try simp only[Act.put,aB,aC,aD,ax,ay,aA]
       refine gV [17,16,15] 12 ?_ rfl (Or.inl ⟨by rfl,?_⟩) hHeld ?_;rotate_left
       ·intro w' hSw;obtain ⟨hS1,hS2,gH,kS⟩:=hSw;go_simp
        try with_reducible rfl
       try simp only[Act.put,aB,aC,aD,ax,ay,aA]
       refine aR (i:=11) rfl (by kernel_rfl) (by rfl) (fun K hK=> ?_);go_simp;refine Bo.out.mono ?_;rintro en w8 ⟨rfl,rfl⟩;refine hK _ _ (show (fun w'=>w'.cell? ⟨w.heap.size,0,none⟩=some (.pointer (some ⟨g,0,none⟩))∧w'.cell? ⟨g,16,none⟩=some (.bool true)∧w'.cell? ⟨g,15,none⟩=some (.int .i64 (s1.polled:Nat))∧w'.cell? ⟨w3.heap.size,0,none⟩=some (.int .i64 (m:Int))) wr.drew from ⟨s0,wS,IA,m0⟩) ?_;clear hK K hHeld;have hHeld:=(show (fun w'=>w'.cell? ⟨w.heap.size,0,none⟩=some (.pointer (some ⟨g,0,none⟩))∧w'.cell? ⟨g,16,none⟩=some (.bool true)∧w'.cell? ⟨g,15,none⟩=some (.int .i64 (s1.polled:Nat))∧w'.cell? ⟨w3.heap.size,0,none⟩=some (.int .i64 (m:Int))) wr.drew from ⟨s0,wS,IA,m0⟩)
       try simp only[Act.put,aB,aC,aD,ax,ay,aA]
       refine aY 13 rfl hHeld ?_
       try simp only[Act.put,aB,aC,aD,ax,ay,aA]
       refine aY 14 rfl hHeld ?_
       try simp only[Act.put,aB,aC,aD,ax,ay,aA]
       refine aY 15 rfl hHeld ?_
       try simp only[Act.put,aB,aC,aD,ax,ay,aA]
       refine aY 16 rfl hHeld ?_
       try simp only[Act.put,aB,aC,aD,ax,ay,aA]
       refine bD (i:=17) rfl (by kernel_rfl) (by kernel_rfl) (by rfl) (fun K hK=> ?_);go_simp;refine hK _ _ ?_;clear hK K
       try simp only[Act.put,aB,aC,aD,ax,ay,aA]
       refine bu (by kernel_rfl) ?_ _;refine NoPanic.normal ?_;go_wp2_with fail;go_meet;show (wr.setCell _ (.bool (decide ((m:Int)≤dW s1 (s1.polled:Int))))).drew=_
       rw[hbt]
     case rest=>
     subst hcut;obtain ⟨s3,hs3⟩:∃s3,{BL c (bT dO) s1 m with wait:=b}=s3:=⟨_,rfl⟩
     have PZ:=(xP.out.mQ 16 (.bool b) (st':= {BL c (bT dO) s1 m with wait:=b}) (by simp[dS,BL]) rfl rfl).drew;have hK8:=(YV.out.setCell (p:=⟨g,16,none⟩) (fun _ _=>xP.out.gd) (.bool b)).drew;have hSt:=PW c (bT dO) m s1 HI1.out.f HB1.out.pol b yV.out;have hso:s3.taken=s3.front+sizes s3.out:=by
      rw[←hs3];show s1.taken=s1.front+sizes (aM c (bT dO) m s1.out).1
      rw[mI];exact HI1.out.tk
     have GG:=HB1.out.held;have hle3:=HI1.out.le;have hdone:=HB1.out.done;have hq3:s3.queue=s1.queue:=by rw[←hs3];rfl
     have YN:=qM HI1.out.pos;have hmiss:∀x∈s1.out,(∀r∈bT dO x,r.1≤r.2∧r.2<aG x)∧(bT dO x).length≤1000:=fun x hx=>by
      have h1:=Gq dO (gX (HB1.out.ou x hx)).1;exact ⟨h1.1,by have:=h1.2;omega⟩
     have hB3:jF s3 (K+1):=by rw[←hs3];exact HB1.out.aM c (bT dO) m hmiss _ b
     have hl3:s3.out.length≤512:=by
      rw[←hs3];show (aM c (bT dO) m s1.out).1.length≤512
      rw[jl];exact HI1.out.w
     rw[hs3] at PZ hSt;have afm:s3.taken=s1.taken:=by rw[←hs3];rfl
     have hf3:s3.first=s1.first:=by rw[←hs3];rfl
     have hd3:s3.done=s1.done:=by rw[←hs3];rfl
     have Q0:aW s1=aj s1.queue:=rfl;have HAV:=ah (Et PZ hso (by omega) (by rw[hf3];exact HI1.out.f) hl3 (by omega) (by rw[hq3];omega) (by rw[hq3];intro s hs;exact (HB1.out.KB s hs).2));have HX8:=ah (HX6.out.kept hK8 YT.out);have QY:=ah hK8;have HB3:=ah hB3;have HST:=ah hSt;have HL3:=ah hl3;have HA8:=ah PZ;clear PZ hK8 hSt hso GG hle3 hdone hq3 YN hmiss hB3 hl3 afm hf3 hd3 Q0 IA wS f16 m0 s0 Bo hs3;obtain ⟨s0,-,-,-,-⟩:=HX8.out.cells;generalize (wr.setCell ⟨g,16,none⟩ (.bool b)).drew=w8 at*;go_wp2_with fail;refine HAV.out.mono ?_;rintro en w9 ⟨rfl,vq9,vs9,Xn,os9,hA9,KP⟩;have HX9:=ah (HX8.out.kept KP YT.out);have GH:=ah hA9;have Sb:=ah (QY.out.trans KP);have hB4:=HB3.out.V2;have hl4:(eD s3).out.length≤512:=by
      have:=HL3.out;obtain ⟨⟨d,e1,-⟩,-⟩:=jk s3.out;have e2:s3.out.length=(d++(aQ s3.out).2.2).length:=congrArg _ e1;rw[List.length_append] at e2;show (aQ s3.out).2.2.length≤512
      omega
     obtain ⟨s4,hs4⟩:∃s4,eD s3=s4:=⟨_,rfl⟩
     rw[hs4] at HST GH hB4 hl4;have BG:=ah hB4;have HL4:=ah hl4;have Eg:=GH.out.blk.cell 18;simp[dS] at Eg;clear s0 hA9 KP hB4 hl4 hs4 HAV;obtain ⟨s0,-,-,e0,e1⟩:=HX9.out.cells;cases how:s4.eB with
     |false=>
      have HO:=ah (show kX w6 D F g c s4 w9 from ⟨D,F',vq9,vs9,Xn,os9,GH.out,bW.refl _ _,HF'.out,Sb.out⟩);have hst:=HST.out;rw[if_neg (by rw[how];decide)] at hst;have hrr:=HRR.out;rw[hst] at hrr;rw[how] at Eg;clear how;cases hfl:s4.failed with
      |false=>
       rw[hfl] at hrr;have HM:=ah (zB GH.out hfl);have Cv:=ah hrr;clear hst hrr hfl;go_wp2_with fail;refine HM.out.mono ?_;rintro en w98 ⟨rfl,rfl⟩;go_wp2;refine leaves_cons (f:=76) (args:= #[.pointer (some ⟨w.heap.size+1+1,0,none⟩)]) (by simp) (by simp[go_sem]) ?_;refine (eZ _ _).mono ?_;rintro e99 u99 w99 ⟨rfl,rfl,rfl⟩;have q:=(HX9.out.e.av 0 (.int .i64 0)).cell 0;simp at q;refine ⟨.int .i64 0,by simp[results,Tryz.results93,go_sem,q],?_⟩;rw[Cv.out];exact ⟨rfl,HO.out.put tF.out (b:=w.heap.size+1+1) (by omega) (by have:=LQ.out;omega) HH.out.lt HH.out.sub 0 _⟩
      |true=>
       rw[hfl] at hrr;have HM:=ah (vW GH.out hfl);have Cv:=ah hrr;clear hst hrr hfl;go_wp2_with fail;refine HM.out.mono ?_;rintro en w98 ⟨rfl,rfl⟩;refine leaves_cons (f:=76) (args:= #[.pointer (some ⟨w.heap.size+1+1,0,none⟩)]) (by simp) (by simp[go_sem]) ?_;refine (jK _ _ w9 HX9.out.e).mono ?_;rintro e99 u99 w99 ⟨rfl,rfl,rfl⟩;have q:=((HX9.out.e.alloc (.cells #[] 191)).av 0 (.int .i64 8)).cell 0;simp at q;refine ⟨.int .i64 8,by simp[results,Tryz.results93,go_sem,q],?_⟩;rw[Cv.out];exact ⟨rfl,(HO.out.alloc _).put tF.out (b:=w.heap.size+1+1) (by omega) (by have:=LQ.out;omega) HH.out.lt HH.out.sub 0 _⟩
     |true=>
      have hst:=HST.out;rw[if_pos how] at hst;have hrr:=HRR.out;rw[hst] at hrr;rw[how] at Eg;have KJ:=ah (uM GH.out BG.out (by omega) HL4.out);have Xo:=ah hrr;clear how hst hrr;go_wp2_with fail;refine KJ.out.mono ?_;rintro en OO ⟨rfl,P6⟩;have HO:=ah (kX.step Sb.out (bW.refl _ _) HF'.out P6);have Tw:=ah (HX6.out.kept HO.out.kept YT.out);obtain ⟨D10,F10,alN,alO,alP,alQ,P7,-,-,-⟩:=P6;have nK:=ah P7;clear s0 e0 e1 P7;obtain ⟨s0,-,-,e0,e1⟩:=Tw.out.cells;obtain ⟨s5,hs5⟩:∃s5,bQ c s4=s5:=⟨_,rfl⟩
      have hrr:=Xo.out;rw[hs5] at hrr HO nK;have hst:=hs5;clear hs5;cases hfl:s5.failed with
      |false=>
       rw[hfl] at hrr;have HM:=ah (zB nK.out hfl);have Cv:=ah hrr;clear hst hrr hfl;go_wp2_with fail;refine HM.out.mono ?_;rintro en w98 ⟨rfl,rfl⟩;go_wp2;refine leaves_cons (f:=76) (args:= #[.pointer (some ⟨w.heap.size+1+1,0,none⟩)]) (by simp) (by simp[go_sem]) ?_;refine (eZ _ _).mono ?_;rintro e99 u99 w99 ⟨rfl,rfl,rfl⟩;have q:=(Tw.out.e.av 0 (.int .i64 0)).cell 0;simp at q;refine ⟨.int .i64 0,by simp[results,Tryz.results93,go_sem,q],?_⟩;rw[Cv.out];exact ⟨rfl,HO.out.put tF.out (b:=w.heap.size+1+1) (by omega) (by have:=LQ.out;omega) HH.out.lt HH.out.sub 0 _⟩
      |true=>
       rw[hfl] at hrr;have HM:=ah (vW nK.out hfl);have Cv:=ah hrr;clear hst hrr hfl;go_wp2_with fail;refine HM.out.mono ?_;rintro en w98 ⟨rfl,rfl⟩;refine leaves_cons (f:=76) (args:= #[.pointer (some ⟨w.heap.size+1+1,0,none⟩)]) (by simp) (by simp[go_sem]) ?_;refine (jK _ _ OO Tw.out.e).mono ?_;rintro e99 u99 w99 ⟨rfl,rfl,rfl⟩;have q:=((Tw.out.e.alloc (.cells #[] 191)).av 0 (.int .i64 8)).cell 0;simp at q;refine ⟨.int .i64 8,by simp[results,Tryz.results93,go_sem,q],?_⟩;rw[Cv.out];exact ⟨rfl,(HO.out.alloc _).put tF.out (b:=w.heap.size+1+1) (by omega) (by have:=LQ.out;omega) HH.out.lt HH.out.sub 0 _⟩
end
end
section
open Go.RowKit Go.Shelf
attribute [local go_sem] Oper.semAt_some
theorem Mi (b:Nat) (w:World):
 Calls Tryz.prog 164 #[.pointer (some ⟨b,0,none⟩)] w fun e w'=>e= .returned (.func (.func 201) #[] #[.pointer (some ⟨w.heap.size,0,none⟩)])∧w'=w.alloc (.cells #[.pointer (some ⟨b,0,none⟩)] 161):=by
 go_enter Tryz.func164,Tryz.ntmps164;go_wp2;go_ret;exact ⟨rfl,rfl⟩
def CJ (x:Nk):Array Value:= #[.int .i64 x.sn,.bool x.part,.int .i64 x.fr,.int .i64 x.lt]
theorem Jq (sn:Int) (gs:Nat) (x:Nat × Nat) (w:World) (h:w.cell? ⟨gs,0,none⟩=some (.int .i64 sn)) (hg:gs<w.heap.size):
 Calls Tryz.prog 165 #[.int .i64 (x.1:Nat),.int .i64 (x.2:Nat),.pointer (some ⟨gs,0,none⟩)] w fun e w'=>e= .returned (.agg (CJ ⟨sn,true,(x.1:Nat),(x.2:Nat)⟩))∧Below w.heap.size w w':=by
 have hz:=au.new w 197 (CJ ⟨sn,true,(x.1:Nat),(x.2:Nat)⟩);have HZ:=ah hz;clear hz;go_enter Tryz.func165,Tryz.ntmps165;go_wp2;refine bodyPost_ret (v:= .agg (CJ ⟨sn,true,(x.1:Nat),(x.2:Nat)⟩)) ?_ rfl ⟨rfl,(Below.refl _ w).alloc (aN) _⟩;rw[mO rfl];have c0:=HZ.out.cell 0;have c1:=HZ.out.cell 1;have c2:=HZ.out.cell 2;have c3:=HZ.out.cell 3;simp[CJ] at c0 c1 c2 c3;go_simp;rfl
end
section
open Go.RowKit Go.Shelf
attribute [local go_sem] Oper.semAt_some
theorem nI:∀(l:List Fl) (i fr:Nat),(eY l i fr).length≤l.length+1
 | [],i,fr=>by unfold eY;split<;>simp
 |f::r,i,fr=>by
  have h1:=nI r (i+1) fr;have h2:=nI r (i+1) (i+1);unfold eY;split
  ·simp;omega
  ·split<;>simp<;>omega
theorem zD {w w':World} {base sz:Nat} {e:TypeId} {n:Nat} {v:Value} {xs:List Value} {row:Option Nat} (h:w.ownsRow base e sz v n xs) (hg:w.grownBy w' row) (hr:∀r,row=some r→∃o:Obj,w.heap[r]? =some o∧o.isCells=false):w'.ownsRow base e sz v n xs:=by
 refine h.kept hg ?_;rcases h.2 with ⟨rfl,_⟩|⟨q,cap,cur,rfl,q1,q2,_⟩
 ·exact .inl rfl
 ·refine .inr (fun e'=> ?_);obtain ⟨o',ho',hc⟩:=hr q e'.symm;rw[q2] at ho';cases ho';cases hc
theorem gG {w:World} {base sz g:Nat} {e t:TypeId} {n:Nat} {v:Value} {xs:List Value} {cs:Array Value} (h:w.ownsRow base e sz v n xs) (hb:au w g t cs) (ht:e≠t):v.ownBlock≠some g:=by
 intro e';rcases h.2 with ⟨rfl,_⟩|⟨q,cap,cur,rfl,q1,q2,_⟩
 ·cases e'
 ·have e2:q=g:=by injection e'
  subst e2;rw[show w.heap[q]? =_ from hb] at q2;cases q2;exact ht rfl
theorem Ei (w:World) (x:Nk):bM (w.alloc (.cells (CJ x) 197)) (some ⟨w.heap.size,0,none⟩) 1 1 [x]:=
 ⟨rfl,aN,by omega,fun _=>⟨_,rfl,by simp,fun j r hr=>by
  cases j with
  |zero=>
   simp at hr;subst hr;have b:=au.new w 197 (CJ x);exact ⟨b.cell 0,b.cell 1,b.cell 2,b.cell 3⟩
  |succ j=>simp at hr⟩⟩
def WR (t4:Nat) (sn:Nat) (L:List (Nat × Nat)) (w2:World) (k:Nat) (W:World):Prop:=
 (∃v,W.ownsRow w2.heap.size 197 4 v ((L.take k).map (eO sn)).length (mW ((L.take k).map (eO sn)))∧au W t4 131 #[v])∧Kept (fun j _=>j=t4∨w2.heap.size≤j) w2 W
theorem Pj (t4 sn:Nat) (L:List (Nat × Nat)) (w2:World):OwnFrom w2.heap.size (WR t4 sn L w2):=fun k X Y row hs hg hr=>by
 have hr':∀r,row=some r→∃o:Obj,X.heap[r]? =some o∧o.isCells=false:=fun r e=>(hr r e).2
 obtain ⟨⟨v,h1,h2⟩,h3⟩:=hs;exact ⟨⟨v,zD h1 hg hr',eH h2 hg hr'⟩,h3.trans ((Kept.refl _ X).grown hg (fun j e _ _=> .inr (hr j e).1))⟩
theorem uK (a b:List Nk):mW (a++b)=mW a++mW b:=by simp[mW]
set_option maxRecDepth 100000 in
set_option maxHeartbeats 2000000 in
theorem zF (gv b gs:Nat) (A:Option Addr) (m c:Nat) (l:List Fl) (sn:Nat) (w:World) (hm:m≤100000) (hg:au w gv 161 #[.pointer (some ⟨b,0,none⟩)]) (hbl:b<w.heap.size) (hbc:w.cell? ⟨b,0,none⟩=some (.slice A m c)) (hfs:lV w A m c l)
 (hs:w.cell? ⟨gs,0,none⟩=some (.int .i64 (sn:Nat))) (hgs:gs<w.heap.size):
 Calls Tryz.prog 163 #[.func (.func 201) #[] #[.pointer (some ⟨gv,0,none⟩)],.func (.func 165) #[] #[.pointer (some ⟨gs,0,none⟩)]] w fun e w'=>∃v,e= .returned v∧
  w'.ownsRow w.heap.size 197 4 v ((eY l 0 0).map (eO sn)).length (mW ((eY l 0 0).map (eO sn)))∧Below w.heap.size w w':=by
 obtain ⟨i0,hi,hz0,hz1,hz2⟩:=qw;have jZ:Tryz.prog.follows .mixedOrders=true:=by kernel_rfl
 obtain ⟨L,hL⟩:∃L,eY l 0 0=L:=⟨_,rfl⟩
 have YA:L.length≤100001:=by rw[←hL];have:=nI l 0 0;have:=hfs.len;omega
 obtain ⟨w2,hw2⟩:∃w2,(w.alloc (.cells #[.func (.func 165) #[] #[.pointer (some ⟨gs,0,none⟩)]] 253)).alloc (.cells #[.slice none 0 0] 131)=w2:=⟨_,rfl⟩
 have hB2:Below w.heap.size w w2:=by rw[←hw2];exact ((Below.refl _ w).alloc (aN) _).alloc (by simp) _
 have hz:w2.heap.size=w.heap.size+2:=by rw[←hw2];simp
 have hb3:au w2 w.heap.size 253 #[.func (.func 165) #[] #[.pointer (some ⟨gs,0,none⟩)]]:=by rw[←hw2];exact (au.new w _ _).alloc _
 have hb4:au w2 (w.heap.size+1) 131 #[.slice none 0 0]:=by
  rw[←hw2];have:=au.new (w.alloc (.cells #[.func (.func 165) #[] #[.pointer (some ⟨gs,0,none⟩)]] 253)) 131 #[.slice none 0 0];simpa using this
 have hg2:=hg.below hB2 hg.lt;have akO:=hg.lt;have HHB:∀W,Below w2.heap.size w2 W→∀X,Kept (fun j _=>j=w.heap.size+1∨w2.heap.size≤j) W X→X.cell? ⟨b,0,none⟩=some (.slice A m c)∧lV X A m c l:=fun W hW X hX=>by
  have h1:Below w.heap.size w X:=(hB2.trans (hW.mono (by omega))).trans (hX.below (B:=w.heap.size) (fun j _ hj=>by omega) (by have:=hB2.size;have:=hW.size;omega));exact ⟨(h1.cell (p:=⟨b,0,none⟩) hbl).trans hbc,hfs.below h1⟩
 have HSX:∀X,Kept (fun j _=>j=w.heap.size+1∨w2.heap.size≤j) w2 X→X.cell? ⟨gs,0,none⟩=some (.int .i64 (sn:Nat)):=fun X hX=>by
  have h1:Below w.heap.size w X:=hB2.trans (hX.below (B:=w.heap.size) (fun j _ hj=>by omega) (by have:=hB2.size;omega));exact (h1.cell (p:=⟨gs,0,none⟩) hgs).trans hs
 have aae:=ah HHB;have aeO:=ah HSX;have HB2:=ah hB2;have HZ:=ah hz;have aeP:=ah hb3;have aeQ:=ah hb4;have YH:=ah hg2;have HLL:=ah YA;have HL:=ah hL;have aeR:=ah hgs;clear HHB HSX hB2 hz hb3 hb4 hg hfs hs hg2 YA hL hbc hgs;refine (callsIn_wide (n:=5)).1 ?_;refine callsIn_of_wp_marks Tryz.func163 rfl trivial ?_ rfl;simp only[Tryz.ntmps163,List.size_toArray,List.length_cons,List.length_nil,Nat.reduceAdd,Nat.reduceSub,Array.replicate_succ,Array.replicate_zero,List.push_toArray,List.append_toArray,List.nil_append,List.cons_append];refine wpIn_wide.2 ?_;go_wp2_with fail;clear hw2;apply wpIn_wide (n:=5).1;apply lH (gf:=201) (lb:= #[.pointer (some ⟨gv,0,none⟩)]) rfl (by omega) rfl trivial (enters_of Tryz.func201 (by kernel_rfl) rfl)
  (Mh _ (by omega) gv b A m c l hm (by exact (aae.out w2 (Below.refl _ _) w2 (Kept.refl _ _)).2.len) (fun j _=>j=w.heap.size+1∨w2.heap.size≤j) w2 YH.out (by have:=HZ.out;omega) aae.out (by have:=HZ.out;omega))
  Kept.trans (fun W l' o o' hl ho hc _=>(Kept.refl _ W).grown (grownBy_putObj' W l' o') (fun j e _ _=>by cases e;exact .inr hl)) (Below.refl _ _) (fun _=>rfl)
  (WR (w.heap.size+1) sn L w2) (Pj _ _ _ _) ⟨⟨_,by simpa[mW] using World.ownsRow_nil _ _ _ _,aeQ.out⟩,Kept.refl _ _⟩
 case hassign=>
  intro l' k W K hK;simp only[yc]
  gi_wp2
  exact hK
 case hbody=>
  intro l' k W hk hI;rw[HL.out] at hk;obtain ⟨⟨v,hrow,hb4⟩,hkp⟩:=hI;obtain ⟨x,hx⟩:∃x,L[k]? =some x:=⟨_,List.getElem?_eq_getElem hk⟩
  have hxv:(eY l 0 0)[k]?.getD (0,0)=x:=by rw[HL.out,hx];rfl
  rw[hxv];have htk:(L.take (k+1)).map (eO sn)=(L.take k).map (eO sn)++ [eO sn x]:=by
   rw[List.take_add_one,hx];simp
  have hkl:((L.take k).map (eO sn)).length≤100001:=by rw[List.length_map,List.length_take];have:=HLL.out;omega
  have hWz:=hkp.size;have hb3:au W w.heap.size 253 #[.func (.func 165) #[] #[.pointer (some ⟨gs,0,none⟩)]]:=aeP.out.kept hkp (by have:=HZ.out;omega);have HGS:=ah (show W.drew.cell? ⟨gs,0,none⟩=some (.int .i64 (sn:Nat)) from aeO.out W hkp);have HGL:=ah (show gs<W.drew.heap.size by have:=aeR.out;have:=HZ.out;simp;omega);have Ml:=ah (fun (w5:World) (hb5:Below W.drew.heap.size W.drew w5)=>(own_below hrow.drew' hb5 (aN)).alloc (.cells (CJ ⟨sn,true,(x.1:Nat),(x.2:Nat)⟩) 197));have BG:=ah hb4;have HB3:=ah hb3;have HKL:=ah hkl;have HW2:=ah hWz;have YI:=ah hkp;have Jv:=ah htk;have s0:W.drew.cell? ⟨w.heap.size+1,0,none⟩=some v:=hb4.drew.cell 0;have s1:W.drew.cell? ⟨w.heap.size,0,none⟩=some (.func (.func 165) #[] #[.pointer (some ⟨gs,0,none⟩)]):=hb3.drew.cell 0;clear hb4 hb3 hkl hWz hkp htk hrow hx hxv hk
  gi_wp2
  refine sJ (S:=fun w'=>w'.cell? ⟨w.heap.size+1,0,none⟩=some v∧w'.cell? ⟨w.heap.size,0,none⟩=some (.func (.func 165) #[] #[.pointer (some ⟨gs,0,none⟩)])) (L:= [7]) jZ (by kernel_rfl) ?hout ?akS
  case hout=>
   rintro ⟨a',w',hh⟩;exact hh
  have hHeld:=(show (fun w':World=>w'.cell? ⟨w.heap.size+1,0,none⟩=some v∧w'.cell? ⟨w.heap.size,0,none⟩=some (.func (.func 165) #[] #[.pointer (some ⟨gs,0,none⟩)])) W.drew from ⟨s0,s1⟩);refine gV [6,7] 0 ?_ rfl (Or.inl ⟨by rfl,?_⟩) hHeld ?_;rotate_left
  ·intro w' hSw;obtain ⟨hS1,hS2⟩:=hSw;go_simp
   try with_reducible rfl
  try simp only[Act.put,aB,aC,ax,ay,aA]
  refine gV [4,5,6,7] 1 ?_ rfl (Or.inl ⟨by rfl,?_⟩) hHeld ?_;rotate_left
  ·intro w' hSw;obtain ⟨hS1,hS2⟩:=hSw;go_simp
   try with_reducible rfl
  try simp only[Act.put,aB,aC,aD,ax,ay,aA]
  refine aY 2 rfl hHeld ?_
  try simp only[Act.put,aB,aC,aD,ax,ay,aA]
  refine aY 3 rfl hHeld ?_
  try simp only[Act.put,aB,aC,aD,ax,ay,aA]
  refine aR (i:=4) rfl (by kernel_rfl) (by rfl) (fun K hK=> ?_);go_simp;refine (Jq sn gs x W.drew HGS.out HGL.out).mono ?_;rintro e5 w5 ⟨rfl,hb5⟩;have q0:=(BG.out.drew.below hb5 BG.out.drew.lt).cell 0;have q1:=(HB3.out.drew.below hb5 HB3.out.drew.lt).cell 0;simp at q0 q1;refine hK _ _ (show (fun w':World=>w'.cell? ⟨w.heap.size+1,0,none⟩=some v∧w'.cell? ⟨w.heap.size,0,none⟩=some (.func (.func 165) #[] #[.pointer (some ⟨gs,0,none⟩)])) _ from ⟨q0,q1⟩) ?_;clear hK K hHeld;have hHeld:=(show (fun w':World=>w'.cell? ⟨w.heap.size+1,0,none⟩=some v∧w'.cell? ⟨w.heap.size,0,none⟩=some (.func (.func 165) #[] #[.pointer (some ⟨gs,0,none⟩)])) _ from ⟨q0,q1⟩)
  try simp only[Act.put,aB,aC,aD,ax,ay,aA]
  refine aR (i:=5) rfl (by kernel_rfl) (by rfl) (fun K hK=> ?_);go_simp;have q0:=((BG.out.drew.below hb5 BG.out.drew.lt).alloc (.cells (CJ ⟨sn,true,(x.1:Nat),(x.2:Nat)⟩) 197)).cell 0;have q1:=((HB3.out.drew.below hb5 HB3.out.drew.lt).alloc (.cells (CJ ⟨sn,true,(x.1:Nat),(x.2:Nat)⟩) 197)).cell 0;simp at q0 q1;refine hK _ _ (show (fun w':World=>w'.cell? ⟨w.heap.size+1,0,none⟩=some v∧w'.cell? ⟨w.heap.size,0,none⟩=some (.func (.func 165) #[] #[.pointer (some ⟨gs,0,none⟩)])) _ from ⟨q0,q1⟩) ?_;clear hK K hHeld;have hHeld:=(show (fun w':World=>w'.cell? ⟨w.heap.size+1,0,none⟩=some v∧w'.cell? ⟨w.heap.size,0,none⟩=some (.func (.func 165) #[] #[.pointer (some ⟨gs,0,none⟩)])) _ from ⟨q0,q1⟩)
  try simp only[Act.put,ax,ay,aA]
  refine aR (i:=6) rfl (by kernel_rfl) (by rfl) (fun K hK=> ?_);refine uJ _ _ _ 131 rfl w2.heap.size 197 i0 (.agg #[.int .i64 0,.bool false,.int .i64 0,.int .i64 0]) 32 sM hi hz0 hz1 hz2 rfl v ((L.take k).map (eO sn)).length (mW ((L.take k).map (eO sn))) (by rfl) (Ml.out w5 hb5) (some ⟨w5.heap.size,0,none⟩) 1 1 [eO sn x] (by rfl) (Ei w5 (eO sn x)) (by have:=HKL.out;unfold maxLen;omega) (by have:=HKL.out;omega) (by have:=HW2.out;have:=hb5.size;simp at this ⊢;omega) ?_;intro v7 w7 nG ig;have Ej:w7.ownsRow w2.heap.size 197 4 v7 ((L.take k).map (eO sn)++ [eO sn x]).length (mW ((L.take k).map (eO sn)++ [eO sn x])):=by rw[uK,List.length_append];exact nG
  obtain ⟨A7,c7,rfl,_⟩:=bM.cB Ej;have q0:=(BG.out.drew.below hb5 BG.out.drew.lt).alloc (.cells (CJ ⟨sn,true,(x.1:Nat),(x.2:Nat)⟩) 197);have q1:=(HB3.out.drew.below hb5 HB3.out.drew.lt).alloc (.cells (CJ ⟨sn,true,(x.1:Nat),(x.2:Nat)⟩) 197);have b4:=q0.grown ig (fun e=>gG (Ml.out w5 hb5) q0 (by decide) e.symm);have b3:=q1.grown ig (fun e=>gG (Ml.out w5 hb5) q1 (by decide) e.symm);have q0:=b4.cell 0;have q1:=b3.cell 0;have q2:=b4.frozen 0;simp at q0 q1;refine hK _ _ (show (fun w':World=>w'.cell? ⟨w.heap.size+1,0,none⟩=some v∧w'.cell? ⟨w.heap.size,0,none⟩=some (.func (.func 165) #[] #[.pointer (some ⟨gs,0,none⟩)])) _ from ⟨q0,q1⟩) ?_;clear hK K hHeld;have hHeld:=(show (fun w':World=>w'.cell? ⟨w.heap.size+1,0,none⟩=some v∧w'.cell? ⟨w.heap.size,0,none⟩=some (.func (.func 165) #[] #[.pointer (some ⟨gs,0,none⟩)])) _ from ⟨q0,q1⟩);simp only[Act.put,List.getElem_toArray,List.getElem_cons_zero,List.getElem_cons_succ,List.setIfInBounds_toArray,List.set_cons_zero,List.set_cons_succ];refine bD (i:=7) rfl (by kernel_rfl) (by kernel_rfl) (by rfl) (fun K hK=> ?_);go_simp;refine hK _ _ ?_;clear hK K
  try simp only[Act.put,aB,aC,aD,ax,ay,aA]
  refine bu (by kernel_rfl) ?_ _;have hrw:=Ml.out w5 hb5;have hvb:∀j,v.ownBlock=some j→w2.heap.size≤j:=fun j e=>(hrw.lt j e).1
  have aaf:∀j,(Value.slice A7 ((L.take k).map (eO sn)++ [eO sn x]).length c7).ownBlock=some j→w2.heap.size≤j:=fun j e=>(Ej.lt j e).1
  have hq:∀j o,v.ownBlock=some j→(w5.alloc (.cells (CJ ⟨sn,true,(x.1:Nat),(x.2:Nat)⟩) 197)).heap[j]? =some o→o.isCells=true:=fun j o e ho=>by
   rcases hrw.2 with ⟨rfl,_⟩|⟨q,cap,cur,rfl,q1,q2,_⟩
   ·cases e
   ·have e2:q=j:=by injection e
    subst e2;rw[q2] at ho;cases ho;rfl
  have Pk:KeepsFrom w2.heap.size W (w7.setCell ⟨w.heap.size+1,0,none⟩ (.slice A7 ((L.take k).map (eO sn)++ [eO sn x]).length c7)):=by
   refine ((KeepsOthers.drew W).from _).trans (KeepsFrom.trans (Y:=w5) ⟨hb5.size,fun k o _ hk _=>(hb5.block k (lt_of_heap hk)).trans hk⟩ ?_);exact ((KeepsOthers.alloc w5 _).from _).trans (((KeepsOthers.of_grownBy ig hq).from _).trans ((KeepsOthers.setCell _ _ _).from _))
  have KP:Kept (fun j _=>j=w.heap.size+1∨w2.heap.size≤j) W (w7.setCell ⟨w.heap.size+1,0,none⟩ (.slice A7 ((L.take k).map (eO sn)++ [eO sn x]).length c7)):=
   (((((Kept.refl _ W).drew.trans (Kept.dD hb5)).alloc _).grown ig (fun j hj _ _=> .inr (hvb j hj)))).setCell (p:=⟨w.heap.size+1,0,none⟩) (fun _ _=> .inl rfl) _
  have hI9:WR (w.heap.size+1) sn L w2 (k+1) (w7.setCell ⟨w.heap.size+1,0,none⟩ (.slice A7 ((L.take k).map (eO sn)++ [eO sn x]).length c7)):=by
   refine ⟨⟨.slice A7 ((L.take k).map (eO sn)++ [eO sn x]).length c7,?_,by simpa using b4.av 0 (.slice A7 ((L.take k).map (eO sn)++ [eO sn x]).length c7)⟩,YI.out.trans KP⟩;rw[Jv.out];refine ownsRow_setCell_other Ej ?_ _;intro e;have h8:w2.heap.size≤w.heap.size+1:=aaf _ e;have h9:=HZ.out;omega
  have e7:((L.take k).map (eO sn)++ [eO sn x]).length=min k L.length+1:=by simp
  rw[e7] at Pk KP hI9;have HF:=ah Pk;have H9:=ah KP;have HI9:=ah hI9;clear Pk KP hI9 hvb aaf hq nG Ej ig hrw b4 b3 hb5;exact ⟨HF.out,H9.out,HI9.out⟩
 case hdone=>
  intro D W hD hI Ga;obtain ⟨⟨v,hrow,hbk⟩,hkp⟩:=hI;rw[HL.out,List.take_of_length_le (aN)] at hrow;obtain ⟨Av,cv,rfl,_,_⟩:=bM.cB (l:=L.map (eO sn)) hrow;have hl:(L.map (eO sn)).length=L.length:=by simp
  have hzz:=HZ.out;have hlw:w.heap.size+1<W.heap.size:=hbk.lt;have hDn:D≠w.heap.size+1:=by omega
  have l0:=hbk.cell 0;have lf:=hbk.frozen 0;simp at l0;have hD1:(W.setCell ⟨w.heap.size+1,0,none⟩ (.slice Av (L.map (eO sn)).length cv)).heap[D]? =some (.deferred (some [])):=(Below.heap_setCell W ⟨w.heap.size+1,0,none⟩ (.slice Av (L.map (eO sn)).length cv) D hDn).trans Ga;have hv1:(W.setCell ⟨w.heap.size+1,0,none⟩ (.slice Av (L.map (eO sn)).length cv)).ownsRow w2.heap.size 197 4 (.slice Av (L.map (eO sn)).length cv) (L.map (eO sn)).length (mW (L.map (eO sn))):=ownsRow_setCell_other hrow (fun e=>by have:=(hrow.lt _ e).1;have e3:(⟨w.heap.size+1,0,none⟩:Addr).block=w.heap.size+1:=rfl;omega) (.slice Av (L.map (eO sn)).length cv);have hb1:au (W.setCell ⟨w.heap.size+1,0,none⟩ (.slice Av (L.map (eO sn)).length cv)) (w.heap.size+1) 131 #[.slice Av (L.map (eO sn)).length cv]:=by simpa using hbk.av 0 (.slice Av (L.map (eO sn)).length cv)
  have hr:∀r,some D=some r→∃o:Obj,(W.setCell ⟨w.heap.size+1,0,none⟩ (.slice Av (L.map (eO sn)).length cv)).heap[r]? =some o∧o.isCells=false:=fun r e=>by cases e;exact ⟨_,hD1,rfl⟩
  have hb2:=eH hb1 (grownBy_putObj' _ D (.deferred none)) hr;have hv2:=zD hv1 (grownBy_putObj' _ D (.deferred none)) hr;have aag:Below w.heap.size w ((W.setCell ⟨w.heap.size+1,0,none⟩ (.slice Av (L.map (eO sn)).length cv)).putObj D (.deferred none)):=by
   have e1:=HB2.out.trans (hkp.below (B:=w.heap.size) (fun j _ hj=>by omega) (by omega));exact (e1.setCell (p:=⟨w.heap.size+1,0,none⟩) (by simp) (.slice Av (L.map (eO sn)).length cv)).grown (grownBy_putObj' _ D (.deferred none)) (by have:=e1.size;simp[World.setCell];omega) (fun j hj=>by cases hj;omega)
  have Pm:=ah (aU (base':=w.heap.size) hv2 (by omega));have Bg:=ah aag;have HD1:=ah hD1;have H2:=ah hb2;rw[hl] at HD1 Bg Pm H2;clear hrow hbk hkp hv1 hb1 hb2 hv2 aag hD1 Ga hr
  gi_wp2
  go_wp2;have c2:=H2.out.cell 0;refine ⟨by simp,.inl ⟨_,_,rfl,run_takeDeferred HD1.out,?_⟩⟩;refine ⟨.slice Av L.length cv,by simp[results,Tryz.results163,go_sem,c2],.slice Av L.length cv,rfl,?_,Bg.out⟩;rw[HL.out,hl];exact Pm.out
end
section
open Go.RowKit Go.Shelf
theorem I8 (bp be:Nat) (w:World):
 CallsD Tryz.prog 133 #[.pointer (some ⟨bp,0,none⟩),.pointer (some ⟨be,0,none⟩)] .returning w fun e u' w'=>e= .returned (.tuple #[])∧u'= .returning∧w=w':=by
 have hnn:=run_eql_nil_nil (P:=Tryz.prog) w (t:=20) (by kernel_rfl);refine callsD_of_wpS Tryz.func133 rfl fun c₀ cs hu=> ?_
 apply wpS_seq;apply wpS_region;generalize hQ:Exit.thenS _ _=Q;simp[wpOpsS,go_sem,recoverD,hu,Tryz.ntmps133];subst hQ;simp only[Exit.thenS];refine wpS_of_wp ?_;change Code.wp _ _ (iY Tryz.prog Tryz.f133 c₀ cs (c₀::cs) _) {tmps:= #[.pointer (some ⟨bp,0,none⟩),.pointer (some ⟨be,0,none⟩),.nilIface,undef,undef,.nilIface,undef,undef,undef,undef,undef,undef,undef,undef,undef,undef,undef,undef],defers:= []} w;go_wp2;cases c₀
 simp_all [iY,bodyPostS,results,Tryz.results133]
set_option maxHeartbeats 400000 in
set_option maxRecDepth 100000 in
theorem DW (bp be:Nat) (er:Int) (v0 v1 v4:Value) (w:World) (hp:au w bp 133 #[v0,v1]) (he:au w be 53 #[v4]) (hne:be≠bp):
 CallsD Tryz.prog 133 #[.pointer (some ⟨bp,0,none⟩),.pointer (some ⟨be,0,none⟩)] (.panicking [{v:= .iface 53 (.int .i64 er),recovered:=false}]) w fun e u' w'=>e= .returned (.tuple #[])∧u'= .panicking [{v:= .iface 53 (.int .i64 er),recovered:=true}]∧
  au w' bp 133 #[.int .i64 0,.slice none 0 0]∧au w' be 53 #[.int .i64 er]∧Kept (fun k _=>k=bp∨k=be) w w':=by
 have hnn:=run_eql_held_nil (P:=Tryz.prog) w 20 53 (.int .i64 er) (by kernel_rfl);have hta:=kT er w;refine callsD_of_wpS Tryz.func133 rfl fun c₀ cs hu=> ?_
 apply wpS_seq;apply wpS_region;generalize hQ:Exit.thenS _ _=Q;simp[wpOpsS,go_sem,recoverD,hu,Tryz.ntmps133];subst hQ;simp only[Exit.thenS];refine wpS_of_wp ?_;change Code.wp _ _ (iY Tryz.prog Tryz.f133 c₀ cs _ _) {tmps:= #[.pointer (some ⟨bp,0,none⟩),.pointer (some ⟨be,0,none⟩),.iface 53 (.int .i64 er),undef,undef,.iface 53 (.int .i64 er),undef,undef,undef,undef,undef,undef,undef,undef,undef,undef,undef,undef],defers:= []} w;have c0:=hp.cell 0;have c1:=hp.cell 1;have f0:=hp.frozen 0;have f1:=hp.frozen 1;have c4:=he.cell 0;have f4:=he.frozen 0;simp at c0 c1 c4;go_wp2;refine ⟨rfl,_,rfl,.tuple #[],by simp[results,Tryz.results133],rfl,rfl,?_,?_,?_⟩
 ·have:=(hp.av 0 (.int .i64 0)).av 1 (.slice none 0 0);simpa using this.far (p:=⟨be,0,none⟩) (fun e=>hne e.symm) (.int .i64 er)
 ·have:=((he.far (p:=⟨bp,0,none⟩) hne (.int .i64 0)).far (p:=⟨bp,1,none⟩) hne (.slice none 0 0)).av 0 (.int .i64 er);simpa using this
 ·exact (((Kept.refl _ w).setCell (p:=⟨bp,0,none⟩) (fun _ _=> .inl rfl) _).setCell (p:=⟨bp,1,none⟩) (fun _ _=> .inl rfl) _).setCell (p:=⟨be,0,none⟩) (fun _ _=> .inr rfl) _
def I9 (w:World) (R:Sum Nat (Nat × List Nk)) (e:Ending) (w':World):Prop:=
 Below w.heap.size w w'∧
 (
  (∃er:Nat,R= .inl er∧e= .returned (.tuple #[.agg #[.int .i64 0,.slice none 0 0],.int .i64 er]))∨
  (∃(aL:Nat) (l:List Nk) (A:Option Addr) (c:Nat),R= .inr (aL,l)∧e= .returned (.tuple #[.agg #[.int .i64 aL,.slice A l.length c],.int .i64 0])∧bM w' A l.length c l∧∀ad,A=some ad→w.heap.size≤ad.block))
theorem jf (w W:World) (R:Sum Nat (Nat × List Nk)) (er:Nat) (T:Array Value) (v0 v1 v4:Value) (h2:T[2]? =some (.pointer (some ⟨w.heap.size,0,none⟩))) (h3:T[3]? =some (.pointer (some ⟨w.heap.size+1,0,none⟩)))
 (hp:au W w.heap.size 133 #[v0,v1]) (he:au W (w.heap.size+1) 53 #[v4]) (hB:Below w.heap.size w W) (hR:R= .inl er):
 bodyPostD Tryz.prog Tryz.f92 (I9 w R) (.panic [{v:= .iface 53 (.int .i64 er),recovered:=false}]) {tmps:=T,defers:= [{target:= .fn (.func 133) #[.pointer (some ⟨w.heap.size,0,none⟩),.pointer (some ⟨w.heap.size+1,0,none⟩)],args:= #[]}]} W:=by
 refine leaves_cons (f:=133) (args:= #[.pointer (some ⟨w.heap.size,0,none⟩),.pointer (some ⟨w.heap.size+1,0,none⟩)]) (by simp) (by simp[go_sem]) ?_;refine (DW _ _ (er:Int) _ _ _ W hp he (by omega)).mono ?_;rintro e u' w'' ⟨rfl,rfl,hp',he',hk⟩;have c0:=hp'.cell 0;have c1:=hp'.cell 1;have c4:=he'.cell 0;simp at c0 c1 c4;refine ⟨.tuple #[.agg #[.int .i64 0,.slice none 0 0],.int .i64 er],?_,hB.trans (hk.below (fun k _ e=>by omega) hB.size),.inl ⟨er,hR,rfl⟩⟩;simp[results,Tryz.results92,go_sem,h2,h3,c0,c1,c4]
end
end Go.Proofs.YtbhiklnljiehiaaGreat
