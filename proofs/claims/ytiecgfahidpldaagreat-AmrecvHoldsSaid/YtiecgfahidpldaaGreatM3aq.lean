/- Status: the report's answers are noted. Unconfirmed: as many SDUs as are not confirmed. A transmitter whose memory lies from a block on; its calls in one form each; num, same of the laws. law35: gives. Grant of a transmitter in one form. A new transmitter as a transmitter of the laws. law36: a transmitter whose calls leave all bytes. amrecv: what a receiver computes (plain functions). -/
import Derived.Test.YtiecgfahidpldaaGreatM3ad
import Derived.Test.YtiecgfahidpldaaGreatM3ae
import Derived.Test.YtiecgfahidpldaaGreatM3ai
import Derived.Test.YtiecgfahidpldaaGreatM3aj
import Derived.Test.YtiecgfahidpldaaGreatM3ak
import Derived.Test.YtiecgfahidpldaaGreatM3am
import Derived.Test.YtiecgfahidpldaaGreatM3an
import Derived.Test.YtiecgfahidpldaaGreatM3ao
import Derived.Test.YtiecgfahidpldaaGreatM3ap
import Derived.Deep.DeepCutAuto
namespace Go.Proofs.YtiecgfahidpldaaGreat
section
open Go.RowKit Go.Shelf
attribute [local go_sem] Oper.semAt_some
theorem bP.OC {w w':World} {A:Option Addr} {n c:Nat} {l:List Nk} {M:Nat→Obj→Prop} (h:bP w A n c l) (hk:Kept M w w') (hM:∀ad,A=some ad→0<n→∀o,¬M ad.block o):bP w' A n c l:=
 ⟨h.len,h.cap,h.mx,fun hn=>by
  obtain ⟨ad,e,hlt,hc⟩:=h.at_ hn;have h1:=Array.getElem?_eq_getElem hlt;have hb:w'.heap[ad.block]? =w.heap[ad.block]? :=by rw[hk.same _ _ h1 (hM ad e hn _),h1]
  refine ⟨ad,e,Nat.lt_of_lt_of_le hlt hk.size,fun j r hr=> ?_⟩;obtain ⟨k0,k1,k2,k3⟩:=hc j r hr;have hbk:w'.heap[(ad.add (j*4)).block]? =w.heap[(ad.add (j*4)).block]? :=by rw[block_add];exact hb
  exact ⟨(World.cell?_of_block (a:=ad.add (j*4)) hbk).trans k0,(cell_of_heap hbk _ _).trans k1,(cell_of_heap hbk _ _).trans k2,(cell_of_heap hbk _ _).trans k3⟩⟩
theorem Ks {aI:Int} {l:List Nk} (h:bU aI l=true):∀y∈l,iE aI y=true:=fun y hy=>by
 unfold bU at h;simp only[Bool.and_eq_true] at h;obtain ⟨k,hk⟩:=List.mem_iff_getElem?.1 hy;exact ((jX aI l).1 h.2.2 k y hk).1
theorem Gg {aI:Int} {y:Nk} (h:iE aI y=true):(0≤y.sn∧y.sn≤1023)∧0≤(Lh y).1∧0≤(Lh y).2:=by
 unfold iE at h;simp only[Bool.and_eq_true,decide_eq_true_eq] at h;obtain ⟨⟨h1,h2⟩,_,h3⟩:=h;refine ⟨⟨h1,by omega⟩,?_⟩;unfold Lh;split
 ·rename_i hp;rw[if_pos hp] at h3;simp only[Bool.and_eq_true,decide_eq_true_eq] at h3;dsimp only;omega
 ·dsimp only;omega
section
variable {D F:Nat→Prop} {g:Nat} {c:Cf} {st:Sd} {vq vo:Value} {vs os:List Value} {w:World}
theorem T6.put {aI:Int} {A:Option Addr} {n cc:Nat} {w0:World} (h:T6 w g aI A n cc w0):T6 w g aI A n cc (w0.setCell ⟨w.heap.size+1+1,0,none⟩ (.int .i64 0)):=
 ⟨h.b.setCell (p:=⟨w.heap.size+1+1,0,none⟩) (by simp;omega) _,h.s.far (p:=⟨w.heap.size+1+1,0,none⟩) (by show ¬w.heap.size=w.heap.size+1+1;omega) _,h.r.far (p:=⟨w.heap.size+1+1,0,none⟩) (by show ¬w.heap.size+1=w.heap.size+1+1;omega) _,by simpa using h.e.aC 0 (.int .i64 0),by simpa[World.setCell] using h.z⟩
theorem Jt {s:Sd} {n:Nat} (h1:s.first<1024) (h2:n≤1023):ed s (n:Int)=(lW s n:Int):=by
 unfold ed lW;omega
theorem OD (c:Cf) (mi:Ou→List (Nat × Nat)) (m:Nat) (s:Sd) (h1:s.first<1024) (h2:s.polled≤1023) (b:Bool) (hb:(s.wait&&decide ((m:Int)≤ed s (s.polled:Int)))=b):
 qm c mi m s=if (fA {Br c mi s m with wait:=b}).fD=true then d9 c (fA {Br c mi s m with wait:=b}) else fA {Br c mi s m with wait:=b}:=by
 have e:(s.wait&&decide (m≤lW s s.polled))=b:=by
  rw[←hb,Jt h1 h2]
  congr 1
  exact decide_eq_decide.2 (by omega)
 unfold qm;dsimp only;rw[e];rfl
structure RO (w:World) (g:Nat) (aI:Int) (A:Option Addr) (n cc:Nat) (w0:World):Prop where
 s:aA w0 w.heap.size 55 #[.pointer (some ⟨g,0,none⟩)]
 r:aA w0 (w.heap.size+1) 42 #[.int .i64 aI,.slice A n cc]
 e:aA w0 (w.heap.size+1+1) 35 #[.int .i64 0]
theorem T6.x {aI:Int} {A:Option Addr} {n cc:Nat} {w0:World} (h:T6 w g aI A n cc w0):RO w g aI A n cc w0:=⟨h.s,h.r,h.e⟩
theorem RO.below {aI:Int} {A:Option Addr} {n cc:Nat} {w0 w1:World} (h:RO w g aI A n cc w0) (hb:Below w0.heap.size w0 w1):RO w g aI A n cc w1:=
 ⟨h.s.below hb h.s.lt,h.r.below hb h.r.lt,h.e.below hb h.e.lt⟩
theorem RO.kept {aI:Int} {A:Option Addr} {n cc:Nat} {w0 w1:World} (h:RO w g aI A n cc w0) (hk:Kept (fun k _=>D k) w0 w1) (hD:∀k,D k→k<w.heap.size):RO w g aI A n cc w1:=
 ⟨h.s.kept hk (fun e=>by have:=hD _ e;omega),h.r.kept hk (fun e=>by have:=hD _ e;omega),h.e.kept hk (fun e=>by have:=hD _ e;omega)⟩
theorem RO.cells {aI:Int} {A:Option Addr} {n cc:Nat} {w0:World} (h:RO w g aI A n cc w0):w0.cell? ⟨w.heap.size,0,none⟩=some (.pointer (some ⟨g,0,none⟩))∧w0.cell? ⟨w.heap.size+1,0,none⟩=some (.int .i64 aI)∧w0.cell? ⟨w.heap.size+1,1,none⟩=some (.slice A n cc)∧w0.cell? ⟨w.heap.size+1+1,0,none⟩=some (.int .i64 0)∧w0.frozen? ⟨w.heap.size+1+1,0,none⟩=false:=
 ⟨h.s.cell 0,h.r.cell 0,h.r.cell 1,h.e.cell 0,h.e.frozen 0⟩
set_option maxRecDepth 100000 in
set_option maxHeartbeats 4000000 in
theorem wF (h:dY w D F g c st vq vs vo os) (ht:M8 c) {K:Nat} (hB:jL st K) (hK:K≤90000) (hI:dm st) (hf:st.failed=false) (now aI:Int) (iR:now≤9223372036854775807)
 (A:Option Addr) (n cc:Nat) (dz:List Nk) (hN:bP w A n cc dz) (hAD:∀ad,A=some ad→0<n→¬D ad.block) (hv:bU aI dz=true):
 Calls Tryz.prog 20 #[.pointer (some ⟨g,0,none⟩),.int .i64 now,.agg #[.int .i64 aI,.slice A n cc]] w (TY w D F g c (eD c st now aI dz)):=by
 have HW:=Lib.hid (T6.mk' w g aI A n cc);have HH:=Lib.hid h;have HN:=Lib.hid hN;have Kr:=Lib.hid hAD;have XL:=Lib.hid (show ∀k,D k→k<w.heap.size from fun k hk=>h.lt k (h.sub k hk));obtain ⟨hln,ZE,ZF⟩:=vY hv;obtain ⟨s1,hs1⟩:∃s1,fu st now=s1:=⟨_,rfl⟩
 have hI1:=hI.clock now;have hB1:=hB.clock iR;have hf1:s1.failed=false:=by rw[←hs1];exact hf
 rw[hs1] at hI1 hB1;have hm0:ed s1 aI=((ed s1 aI).toNat:Int):=by unfold ed;omega
 have hm1:(ed s1 aI).toNat≤1023:=by unfold ed;omega
 have hR:eD c st now aI dz=if (s1.out.length:Int)<ed s1 aI∨dz.any (behind s1 (ed s1 aI))=true then (s1,6) else (qm c (bK dz) (ed s1 aI).toNat s1,if (qm c (bK dz) (ed s1 aI).toNat s1).failed=true then 8 else 0):=by
  unfold eD oO;rw[if_neg (by simp[hf]),if_neg (by simp[hv]),hs1];rw[←hs1];rfl
 have hpl:=fun (W:World) (hA:dY W D F g c s1 vq vs vo os)=>rJ hA hI1.f aI ⟨ZE,ZF⟩
 rw[hm0] at hpl hR;obtain ⟨m,hm⟩:∃m,(ed s1 aI).toNat=m:=⟨_,rfl⟩
 simp only[hm,Int.toNat_natCast] at hpl hR hm1;have yF:=Lib.hid hpl;have HR:=Lib.hid hR;have HI1:=Lib.hid hI1;have HB1:=Lib.hid hB1;have Qq:=Lib.hid hf1;have HV:=Lib.hid hv;have BN:=Lib.hid hs1;have hT:=ht.timer.1;have HF:=Lib.hid hf;have HT:=Lib.hid ht;clear h hN hAD hI hB hI1 hB1 hf1 hm hm0 hpl hR hv hs1 ht hf
 go_enter_defers Tryz.func20,Tryz.ntmps20
 go_wp2_with fail;generalize ((w.alloc (.cells #[.pointer (some ⟨g,0,none⟩)] 55)).alloc (.cells #[.int .i64 aI,.slice A n cc] 42)).alloc (.cells #[.int .i64 0] 35)=w0 at*;have oF:=Lib.hid (gL (HH.out.below HW.out.b) hT);rw[HF.out] at oF;simp only[Bool.false_eq_true,if_false] at oF;have HW1:=Lib.hid HW.out.put;obtain ⟨-,-,-,e0,e1⟩:=HW.out.x.cells;refine oF.out.mono ?_;rintro en w1 ⟨rfl,rfl⟩;obtain ⟨-,r0,r1,-,-⟩:=HW1.out.x.cells;have HA1:=Lib.hid (HH.out.below HW1.out.b);have MJ:=Lib.hid (jY (w0.setCell ⟨w.heap.size+1+1,0,none⟩ (.int .i64 0)) aI A n cc dz (HN.out.below HW1.out.b));rw[HV.out] at MJ;go_wp2_with fail;clear e0 e1 r0 r1 oF HW;generalize w0.setCell ⟨w.heap.size+1+1,0,none⟩ (.int .i64 0)=w1 at*;refine MJ.out.mono ?_;rintro en w2 ⟨rfl,hb2⟩;have RQ:=Lib.hid (HW1.out.x.below hb2);have HA2:=Lib.hid (HA1.out.below hb2);have uW:=Lib.hid (show Kept (fun k _=>D k) w w2 from (Kept.fq HW1.out.b).trans (Kept.fq hb2));have wS:=Lib.hid (Ca HA2.out now);obtain ⟨s0,-,-,-,-⟩:=RQ.out.cells;rw[BN.out] at wS;clear hb2;go_wp2_with fail;refine wS.out.mono ?_;rintro en w3 ⟨rfl,hA3,hk3⟩;have HX3:=Lib.hid (RQ.out.kept hk3 XL.out);have vw:=Lib.hid hA3;have lI:=Lib.hid (uW.out.trans hk3);have HP:=Lib.hid (yF.out w3 hA3);clear s0;obtain ⟨s0,r0,r1,-,-⟩:=HX3.out.cells;clear hA3 hk3 HA2 uW RQ wS MJ HA1 HW1 yF;go_wp2_with fail;refine HP.out.mono ?_;rintro en w4 ⟨rfl,rfl⟩;go_upto_region 9 with (fail)
 have hb4:Below w3.heap.size w3 (w3.alloc (.cells #[.int .i64 (m:Int)] 3)):=(Below.refl _ w3).alloc (Nat.le_refl _) _;have XM:=Lib.hid (aA.new w3 3 #[.int .i64 (m:Int)]);have ZG:=Lib.hid (HX3.out.below hb4);have La:=Lib.hid (vw.out.below hb4);have Co:=Lib.hid (lI.out.trans (Kept.fq hb4));have HZ4:=Lib.hid (show w.heap.size+1+1<w3.heap.size from HX3.out.e.lt);clear s0 r0 r1 hb4 HP vw HX3 lI;generalize w3.alloc (.cells #[.int .i64 (m:Int)] 3)=w4 at*;obtain ⟨Ao,co,rfl,hso⟩:=La.out.Ni;have rP:=La.out.blk.cell 12;simp[dh] at rP;have m0:=XM.out.cell 0;simp at m0;obtain ⟨s0,r0,r1,e0,e1⟩:=ZG.out.cells;have TA:=hso.cap;have Y0:=hso.mx;have XN:=Lib.hid hso;clear hso;by_cases hbig:(s1.out.length:Int)<(m:Int)
 ·have d1:decide ((s1.out.length:Int)<(m:Int))=true:=decide_eq_true hbig;have d2:decide (s1.out.length<m)=true:=decide_eq_true (by omega);have hRr:=HR.out;rw[if_pos (.inl hbig)] at hRr;have Jb:=Lib.hid hRr;clear hbig hRr;refine wp_region_noPanic ?_
  go_quiet (fail)
  refine NoPanic.normal ?_;go_wp2;refine leaves_cons (f:=53) (args:= #[.pointer (some ⟨w.heap.size+1+1,0,none⟩)]) (by simp) (by simp[go_sem]) ?_;refine (fH _ _).mono ?_;rintro e9 u9 w9 ⟨rfl,rfl,rfl⟩;have q:=(((ZG.out.below ((Below.refl _ w4).drewN nq)).e).aC 0 (.int .i64 6)).cell 0;simp at q;refine ⟨.int .i64 6,by simp[results,Tryz.results20,go_sem,q],?_⟩;rw[Jb.out];exact ⟨rfl,((La.out.drewN nq).OA HH.out.lt (b:=w.heap.size+1+1) (by omega) 0 _).o ((Co.out.iA nq).OA (b:=w.heap.size+1+1) (by omega) 0 _)⟩
 ·have d1:decide ((s1.out.length:Int)<(m:Int))=false:=decide_eq_false hbig;have d2:decide (s1.out.length<m)=false:=decide_eq_false (by omega);have hle:m≤s1.out.length:=by omega
  have hRr:=HR.out;have hor:(((s1.out.length:Int)<(m:Int))∨dz.any (behind s1 m)=true)=(dz.any (behind s1 m)=true):=by simp only[hbig,false_or]
  simp only[hor] at hRr;have Jb:=Lib.hid hRr;have HCO:=Lib.hid (fun (W:World) (hW:Below w4.heap.size w4 W)=>Lp (La.out.below hW) HI1.out.f w.heap.size w3.heap.size (m:Int) (ZG.out.below hW).s (XM.out.below hW XM.out.lt) A n cc dz (((HN.out.OC Co.out (fun ad e hz o=>Kr.out ad e hz))).below hW) (fun y hy=>(Gg (Ks HV.out y hy)).1));clear hbig hRr hor HR;go_cut [38] from 26 to 38 (fun s38 wx=>s38= .bool (dz.any (behind s1 m))∧Below w4.heap.size w4 wx)
  case first=>
   refine wp_region_noPanic ?_
   go_region_with (go_at_call 56;refine (HCO.out _ (by first|exact Below.refl _ _|exact (Below.refl _ _).drew|exact (Below.refl _ _).drewN _)).mono ?_;rintro en w5 ⟨rfl,hb5⟩)
   all_goals
    refine NoPanic.normal ?_;go_wp2_with fail;go_meet;exact ⟨rfl,by first|exact hb5|exact (Below.refl _ w4).drew.trans hb5|exact ((Below.refl _ w4).drewN _).trans hb5⟩
  case rest=>
  obtain ⟨rfl,hb5⟩:=hcut;have HX5:=Lib.hid (ZG.out.below hb5);have NU:=Lib.hid (La.out.below hb5);have sI:=Lib.hid (Co.out.trans (Kept.fq hb5));have HM5:=Lib.hid (XM.out.below hb5 XM.out.lt);have Hw:=Lib.hid hb5;clear rP m0 s0 r0 r1 e0 e1 XN HCO;have rP:=NU.out.blk.cell 12;simp[dh] at rP;have m0:=HM5.out.cell 0;simp at m0;obtain ⟨s0,r0,r1,e0,e1⟩:=HX5.out.cells;clear hb5;cases hany:dz.any (behind s1 (m:Int)) with
  |true=>
   have hRr:=Jb.out;rw[if_pos hany] at hRr;have HRR:=Lib.hid hRr;clear hRr hany;go_wp2;refine leaves_cons (f:=53) (args:= #[.pointer (some ⟨w.heap.size+1+1,0,none⟩)]) (by simp) (by simp[go_sem]) ?_;refine (fH _ _).mono ?_;rintro e9 u9 w9 ⟨rfl,rfl,rfl⟩;have q:=(HX5.out.e.aC 0 (.int .i64 6)).cell 0;simp at q;refine ⟨.int .i64 6,by simp[results,Tryz.results20,go_sem,q],?_⟩;rw[HRR.out];exact ⟨rfl,(NU.out.OA HH.out.lt (b:=w.heap.size+1+1) (by omega) 0 _).o (sI.out.OA (b:=w.heap.size+1+1) (by omega) 0 _)⟩
  |false=>
   have hRr:=Jb.out;rw[if_neg (by rw[hany];decide)] at hRr;have HRR:=Lib.hid hRr;clear hRr hany Jb;have hmc:m≤co:=by omega
   go_wp2_with fail
   go_quiet (fail)
   go_wp2_with fail;have HX6:=Lib.hid (HX5.out.below ((Below.refl _ wc).drewN nq));have HA6:=Lib.hid (NU.out.drewN nq);have wm:=Lib.hid (sI.out.iA nq);have HM6:=Lib.hid (HM5.out.below ((Below.refl _ wc).drewN nq) HM5.out.lt);have HN6:=Lib.hid (HN.out.OC wm.out (fun ad e hz o=>Kr.out ad e hz));clear rP m0 s0 r0 r1 e0 e1 HX5 NU sI HM5 Hw La Co ZG XM;have MH:w.heap.size+1+1<w3.heap.size∧w3.heap.size<(wc.drewN nq).heap.size:=⟨HZ4.out,HM6.out.lt⟩;generalize wc.drewN nq=w6 at*;have Uc:=Lib.hid MH;clear MH
   go_loopw [46] (fun i wr=>∃k:Nat,k≤m∧i= .int .i64 k∧∃F',dY wr D F' g c (Br c (bK dz) s1 k) vq vs (.slice Ao s1.out.length co) os∧dX w6 F F'∧Kept (fun k _=>D k) w6 wr) (fun i _=>m-(intOf i).toNat)
   case atStart=>exact ⟨0,Nat.zero_le _,rfl,F,by rw[Oz];exact HA6.out,dX.refl _ _,Kept.refl _ _⟩
   case round=>
    obtain ⟨k,hk,rfl,F',hA',hF',hK'⟩:=hrel;have HX':=Lib.hid (HX6.out.kept hK' XL.out);have xu:=Lib.hid hA';have ZH:=Lib.hid hF';have XO:=Lib.hid hK';obtain ⟨s0,r0,r1,e0,e1⟩:=HX'.out.cells;by_cases hlt:k<m
    ·obtain ⟨x,hx⟩:∃x,s1.out[k]? =some x:=⟨_,List.getElem?_eq_getElem (by omega)⟩
     have hxk:(Br c (bK dz) s1 k).out[k]? =some x:=by rw[Kq];exact hx
     obtain ⟨p,Ap,cp,vp,Ar,cr,he,ho⟩:=hA'.oe k x hxk;obtain ⟨A2,c2,e2,hso⟩:=hA'.Ni;have hll:(Br c (bK dz) s1 k).out.length=s1.out.length:=kF _ _ _ _;rw[hll] at e2 hso;injection e2 with e3 e4 e5
     subst e3 e5;obtain ⟨ad,u,rfl,hb,hu,hc⟩:=hso.get (show k<s1.out.length by omega);rw[he] at hu;cases hu;obtain ⟨z0,z7,z8,z9,Kg,QN⟩:=ho.cells;have Tp:=Lib.hid hx;have TG:=Lib.hid hxk;have HE:=Lib.hid he;have HO:=Lib.hid ho;have HHC:=Lib.hid hc;clear hx hxk he hll hA' hF' hK' hso z0 z7 z8 Kg QN;cases hak:x.bS with
     |true=>
      rw[hak] at z9;have HAK:=Lib.hid hak;clear ho hak;go_wp2
      go_round
      case rel=>
       refine ⟨k+1,by omega,by go_num,F',?_,ZH.out,XO.out⟩;rw[Lv Tp.out HAK.out];exact xu.out
      case measure=>simp[intOf];omega
     |false=>
      rw[hak] at z9;have hox:=HB1.out.ou x (List.mem_of_getElem? Tp.out);have hsz:=gV hox;have HMS:=Lib.hid (D5 aI dz A n cc (HN6.out.OC XO.out (fun ad e hz o=>Kr.out ad e hz)) (by have:=HN6.out.len;omega) p x ho (fun y hy=>(Gg (Ks HV.out y hy)).2) (by omega) hsz.1);have hone:bQ c (bK dz) x=if bK dz x= [] then ({x with bS:=true,pend:= []},false) else gY c x (bK dz x):=by unfold bQ;rw[if_neg (by rw[hak];decide)]
      have RS:=Lib.hid (Gc (c:=c) (m:=bK dz) Tp.out);have HRX:=Lib.hid (HB1.out.rx x (List.mem_of_getElem? Tp.out));rw[hone] at RS;obtain ⟨l,hl⟩:∃l,bK dz x=l:=⟨_,rfl⟩
      rw[hl] at HMS RS;clear ho hak hox hone hl hsz;go_wp2_with fail;refine HMS.out.mono ?_;rintro en w7 ⟨v,rfl,hv7,nV⟩;obtain ⟨Al,cl,rfl,hsp,hbl⟩:=cZ.cO hv7;have aia:=hsp.cap;have aln:=hsp.mx;have Hy:=Lib.hid hsp;have HBL:=Lib.hid hbl;have HX7:=Lib.hid (HX'.out.below nV);have Rf:=xu.out.below nV;obtain ⟨p2,Ap2,cp2,vp2,QO,Vd,he2,XP⟩:=Rf.oe k x TG.out;rw[HE.out] at he2;cases he2;have z9:=XP.blk.cell 9;have Kg:=XP.blk.cell 10;have f9:=XP.blk.frozen 9;have f10:=XP.blk.frozen 10;simp[uN] at z9 Kg;clear s0 r0 r1 e0 e1 hc;obtain ⟨s0,-,-,-,-⟩:=HX7.out.cells;have P7:=Lib.hid Rf;have HO7:=Lib.hid XP;have HB7:=Lib.hid nV;have MN:=Lib.hid (XO.out.trans (Kept.fq nV));clear hv7 hsp hbl Rf XP nV HMS;by_cases hl:l= []
      ·have dl:decide (0<l.length)=false:=by rw[hl];rfl
       have HL:=Lib.hid hl;clear hl;go_wp2
       go_round
       case rel=>
        obtain ⟨h1,h2⟩:=P7.out.confirm TG.out HE.out HO7.out;refine ⟨k+1,by omega,by go_num,F',?_,ZH.out,MN.out.trans h2⟩;have hs:=RS.out;rw[if_pos HL.out] at hs;rw[hs];exact h1
       case measure=>simp[intOf];omega
      ·have dl:decide (0<l.length)=true:=decide_eq_true (List.length_pos_iff.2 hl);obtain ⟨al,rfl,-⟩:=Hy.out.at_ (List.length_pos_iff.2 hl);have hbl:=HBL.out al rfl;have Kt:=P7.out.Ti (b:=al.block) hbl.2;obtain ⟨p3,Ap3,cp3,vp3,Ar3,cr3,ZI,ho3⟩:=Kt.oe k x TG.out;rw[HE.out] at ZI;cases ZI;have YR:=Lib.hid (yM Kt TG.out HE.out ho3 Hy.out (fun ad e=>by cases e;exact ⟨.inr rfl,xu.out.fresh hbl.1⟩) (by have:=HRX.out;omega));have HL:=Lib.hid hl;have VC:=Lib.hid hbl;clear hl Kt ho3 hbl;go_wp2_with fail;refine YR.out.mono ?_;rintro en w8 ⟨rfl,Kt,ZJ⟩;have HA8:=Lib.hid Kt;have ZK:=Lib.hid ZJ;clear Kt ZJ;go_wp2
       go_round
       case rel=>
        refine ⟨k+1,by omega,by go_num,fun j=>F' j∨j=al.block,?_,?_,MN.out.trans ZK.out⟩
        ·have hs:=RS.out;rw[if_neg HL.out] at hs;rw[hs];exact HA8.out
        ·intro j hj;rcases hj with hj|rfl
         ·exact ZH.out j hj
         ·have:=VC.out.1;have:=XO.out.size;have:=wm.out.size;exact .inr (by omega)
       case measure=>simp[intOf];omega
    ·have hkm:m=k:=by omega
     subst hkm;clear hA' hF' hK';go_wp2_with fail;obtain ⟨b,hb⟩:∃b,(s1.wait&&decide ((m:Int)≤ed s1 (s1.polled:Int)))=b:=⟨_,rfl⟩
     have yF:=Lib.hid (rJ (w:=wr.drew) (st:=Br c (bK dz) s1 m) xu.out.drew HI1.out.f (s1.polled:Int) (by have:=HB1.out.pol;omega));have Hz:=xu.out.blk.cell 15;have vZ:=xu.out.blk.cell 16;have f16:=xu.out.blk.frozen 16;have m0:=(HM6.out.kept XO.out (fun e=>by have:=XL.out _ e;have:=Uc.out;omega)).cell 0;simp[dh,Br] at Hz vZ m0;have vC:=Lib.hid hb;have Yc:=xu.out.blk.lt;clear hb r0 r1 e0 e1;go_cut [] from 71 to 87 (fun wx=>wx=(wr.setCell ⟨g,16,none⟩ (.bool b)).drew)
     case first=>
      cases hwt:s1.wait with
      |false=>
       have hbt:b=false:=by rw[←vC.out,hwt];rfl
       rw[hwt] at vZ;subst hbt;clear hwt;refine wp_region_noPanic ?_;refine bM (fun w'=>w'.cell? ⟨w.heap.size,0,none⟩=some (.pointer (some ⟨g,0,none⟩))∧w'.cell? ⟨g,16,none⟩=some (.bool false)∧w'.cell? ⟨g,15,none⟩=some (.int .i64 (s1.polled:Nat))∧w'.cell? ⟨w3.heap.size,0,none⟩=some (.int .i64 (m:Int))) [17] (by kernel_rfl) ?_;have hHeld:=(show (fun w'=>w'.cell? ⟨w.heap.size,0,none⟩=some (.pointer (some ⟨g,0,none⟩))∧w'.cell? ⟨g,16,none⟩=some (.bool false)∧w'.cell? ⟨g,15,none⟩=some (.int .i64 (s1.polled:Nat))∧w'.cell? ⟨w3.heap.size,0,none⟩=some (.int .i64 (m:Int))) wr.drew from ⟨s0,vZ,Hz,m0⟩);refine tkX [17,16,15] 0 ?_ rfl (Or.inl ⟨by rfl,?_⟩) hHeld ?_;rotate_left
       ·intro w' hSw;obtain ⟨hS1,hS2,ig,pW⟩:=hSw;go_simp
        try with_reducible rfl
       try simp only[Act.put,zzA,zzE,yo,UM,zzD]
       refine tkX [17,16,15] 1 ?_ rfl (Or.inl ⟨by rfl,?_⟩) hHeld ?_;rotate_left
       ·intro w' hSw;obtain ⟨hS1,hS2,ig,pW⟩:=hSw;go_simp
        try with_reducible rfl
       try simp only[Act.put,zzA,zzE,zzF,yo,UM,zzD]
       refine tkY 2 ?_ rfl (Or.inl ⟨by rfl,?_⟩) hHeld ?_;rotate_left
       ·intro w' hSw;go_simp
        try with_reducible rfl
       try simp only[Act.put,zzA,zzE,zzF,yo,UM,zzD]
       refine tkY 3 ?_ rfl (Or.inl ⟨by rfl,?_⟩) hHeld ?_;rotate_left
       ·intro w' hSw;go_simp
        try with_reducible rfl
       try simp only[Act.put,zzA,zzE,zzF,yo,UM,zzD]
       refine tkX [17,16,15] 4 ?_ rfl (Or.inl ⟨by rfl,?_⟩) hHeld ?_;rotate_left
       ·intro w' hSw;obtain ⟨hS1,hS2,ig,pW⟩:=hSw;go_simp
        try with_reducible rfl
       try simp only[Act.put,zzA,zzE,zzF,yo,UM,zzD]
       refine tkY 5 ?_ rfl (Or.inl ⟨by rfl,?_⟩) hHeld ?_;rotate_left
       ·intro w' hSw;go_simp
        try with_reducible rfl
       try simp only[Act.put,zzA,zzE,zzF,yo,UM,zzD]
       refine tkY 6 undef rfl (Or.inr ⟨by rfl,rfl⟩) hHeld ?_
       try simp only[Act.put,zzA,zzE,zzF,yo,UM,zzD]
       refine tkY 7 undef rfl (Or.inr ⟨by rfl,rfl⟩) hHeld ?_
       try simp only[Act.put,zzA,zzE,zzF,yo,UM,zzD]
       refine tkY 8 undef rfl (Or.inr ⟨by rfl,rfl⟩) hHeld ?_
       try simp only[Act.put,zzA,zzE,zzF,yo,UM,zzD]
       refine tkY 9 undef rfl (Or.inr ⟨by rfl,rfl⟩) hHeld ?_
       try simp only[Act.put,zzA,zzE,zzF,yo,UM,zzD]
       refine tkY 10 undef rfl (Or.inr ⟨by rfl,rfl⟩) hHeld ?_
       try simp only[Act.put,zzA,zzE,zzF,yo,UM,zzD]
       refine tkY 11 undef rfl (Or.inr ⟨by rfl,rfl⟩) hHeld ?_
       try simp only[Act.put,zzA,zzE,zzF,yo,UM,zzD]
       refine tkY 12 undef rfl (Or.inr ⟨by rfl,rfl⟩) hHeld ?_
       try simp only[Act.put,zzA,zzE,zzF,yo,UM,zzD]
       refine tkY 13 undef rfl (Or.inr ⟨by rfl,rfl⟩) hHeld ?_
       try simp only[Act.put,zzA,zzE,zzF,yo,UM,zzD]
       refine tkY 14 ?_ rfl (Or.inl ⟨by rfl,?_⟩) hHeld ?_;rotate_left
       ·intro w' hSw;go_simp
        try with_reducible rfl
       try simp only[Act.put,zzA,zzE,zzF,yo,UM,zzD]
       refine tkY 15 ?_ rfl (Or.inl ⟨by rfl,?_⟩) hHeld ?_;rotate_left
       ·intro w' hSw;go_simp
        try with_reducible rfl
       try simp only[Act.put,zzA,zzE,zzF,yo,UM,zzD]
       refine tkY 16 ?_ rfl (Or.inl ⟨by rfl,?_⟩) hHeld ?_;rotate_left
       ·intro w' hSw;go_simp
        try with_reducible rfl
       try simp only[Act.put,zzA,zzE,zzF,yo,UM,zzD]
       refine aQ (i:=17) rfl (by kernel_rfl) (by kernel_rfl) (by rfl) (fun K hK=> ?_);go_simp;refine hK _ _ ?_;clear hK K
       try simp only[Act.put,zzA,zzE,zzF,yo,UM,zzD]
       refine aU (by kernel_rfl) ?_ _;refine NoPanic.normal ?_;go_wp2_with fail;go_meet;rfl
      |true=>
       have hbt:decide ((m:Int)≤ed s1 (s1.polled:Int))=b:=by rw[←vC.out,hwt];rfl
       rw[hwt] at vZ;clear hwt;refine wp_region_noPanic ?_;refine bM (fun w'=>w'.cell? ⟨w.heap.size,0,none⟩=some (.pointer (some ⟨g,0,none⟩))∧w'.cell? ⟨g,16,none⟩=some (.bool true)∧w'.cell? ⟨g,15,none⟩=some (.int .i64 (s1.polled:Nat))∧w'.cell? ⟨w3.heap.size,0,none⟩=some (.int .i64 (m:Int))) [17] (by kernel_rfl) ?_;have hHeld:=(show (fun w'=>w'.cell? ⟨w.heap.size,0,none⟩=some (.pointer (some ⟨g,0,none⟩))∧w'.cell? ⟨g,16,none⟩=some (.bool true)∧w'.cell? ⟨g,15,none⟩=some (.int .i64 (s1.polled:Nat))∧w'.cell? ⟨w3.heap.size,0,none⟩=some (.int .i64 (m:Int))) wr.drew from ⟨s0,vZ,Hz,m0⟩);refine tkX [17,16,15] 0 ?_ rfl (Or.inl ⟨by rfl,?_⟩) hHeld ?_;rotate_left
       ·intro w' hSw;obtain ⟨hS1,hS2,ig,pW⟩:=hSw;go_simp
        try with_reducible rfl
       try simp only[Act.put,zzA,zzE,yo,UM,zzD]
       refine tkX [17,16,15] 1 ?_ rfl (Or.inl ⟨by rfl,?_⟩) hHeld ?_;rotate_left
       ·intro w' hSw;obtain ⟨hS1,hS2,ig,pW⟩:=hSw;go_simp
        try with_reducible rfl
       try simp only[Act.put,zzA,zzE,zzF,yo,UM,zzD]
       refine tkY 2 ?_ rfl (Or.inl ⟨by rfl,?_⟩) hHeld ?_;rotate_left
       ·intro w' hSw;go_simp
        try with_reducible rfl
       try simp only[Act.put,zzA,zzE,zzF,yo,UM,zzD]
       refine tkY 3 ?_ rfl (Or.inl ⟨by rfl,?_⟩) hHeld ?_;rotate_left
       ·intro w' hSw;go_simp
        try with_reducible rfl
       try simp only[Act.put,zzA,zzE,zzF,yo,UM,zzD]
       refine tkX [17,16,15] 4 ?_ rfl (Or.inl ⟨by rfl,?_⟩) hHeld ?_;rotate_left
       ·intro w' hSw;obtain ⟨hS1,hS2,ig,pW⟩:=hSw;go_simp
        try with_reducible rfl
       try simp only[Act.put,zzA,zzE,zzF,yo,UM,zzD]
       refine tkY 5 ?_ rfl (Or.inl ⟨by rfl,?_⟩) hHeld ?_;rotate_left
       ·intro w' hSw;go_simp
        try with_reducible rfl
       try simp only[Act.put,zzA,zzE,zzF,yo,UM,zzD]
       refine tkX [17,16,15] 6 ?_ rfl (Or.inl ⟨by rfl,?_⟩) hHeld ?_;rotate_left
       ·intro w' hSw;obtain ⟨hS1,hS2,ig,pW⟩:=hSw;go_simp
        try with_reducible rfl
       try simp only[Act.put,zzA,zzE,zzF,yo,UM,zzD]
       refine tkX [17,16,15] 7 ?_ rfl (Or.inl ⟨by rfl,?_⟩) hHeld ?_;rotate_left
       ·intro w' hSw;obtain ⟨hS1,hS2,ig,pW⟩:=hSw;go_simp
        try with_reducible rfl
       try simp only[Act.put,zzA,zzE,zzF,yo,UM,zzD]
       refine tkY 8 ?_ rfl (Or.inl ⟨by rfl,?_⟩) hHeld ?_;rotate_left
       ·intro w' hSw;go_simp
        try with_reducible rfl
       try simp only[Act.put,zzA,zzE,zzF,yo,UM,zzD]
       refine tkY 9 ?_ rfl (Or.inl ⟨by rfl,?_⟩) hHeld ?_;rotate_left
       ·intro w' hSw;go_simp
        try with_reducible rfl
       try simp only[Act.put,zzA,zzE,zzF,yo,UM,zzD]
       refine tkX [17,16,15] 10 ?_ rfl (Or.inl ⟨by rfl,?_⟩) hHeld ?_;rotate_left
       ·intro w' hSw;obtain ⟨hS1,hS2,ig,pW⟩:=hSw;go_simp
        try with_reducible rfl
       try simp only[Act.put,zzA,zzE,zzF,yo,UM,zzD]
       refine tkX [17,16,15] 12 ?_ rfl (Or.inl ⟨by rfl,?_⟩) hHeld ?_;rotate_left
       ·intro w' hSw;obtain ⟨hS1,hS2,ig,pW⟩:=hSw;go_simp
        try with_reducible rfl
       try simp only[Act.put,zzA,zzE,zzF,yo,UM,zzD]
       refine bu (i:=11) rfl (by kernel_rfl) (by rfl) (fun K hK=> ?_);go_simp;refine yF.out.mono ?_;rintro en w8 ⟨rfl,rfl⟩;refine hK _ _ (show (fun w'=>w'.cell? ⟨w.heap.size,0,none⟩=some (.pointer (some ⟨g,0,none⟩))∧w'.cell? ⟨g,16,none⟩=some (.bool true)∧w'.cell? ⟨g,15,none⟩=some (.int .i64 (s1.polled:Nat))∧w'.cell? ⟨w3.heap.size,0,none⟩=some (.int .i64 (m:Int))) wr.drew from ⟨s0,vZ,Hz,m0⟩) ?_;clear hK K hHeld;have hHeld:=(show (fun w'=>w'.cell? ⟨w.heap.size,0,none⟩=some (.pointer (some ⟨g,0,none⟩))∧w'.cell? ⟨g,16,none⟩=some (.bool true)∧w'.cell? ⟨g,15,none⟩=some (.int .i64 (s1.polled:Nat))∧w'.cell? ⟨w3.heap.size,0,none⟩=some (.int .i64 (m:Int))) wr.drew from ⟨s0,vZ,Hz,m0⟩)
       try simp only[Act.put,zzA,zzE,zzF,yo,UM,zzD]
       refine tkY 13 ?_ rfl (Or.inl ⟨by rfl,?_⟩) hHeld ?_;rotate_left
       ·intro w' hSw;go_simp
        try with_reducible rfl
       try simp only[Act.put,zzA,zzE,zzF,yo,UM,zzD]
       refine tkY 14 ?_ rfl (Or.inl ⟨by rfl,?_⟩) hHeld ?_;rotate_left
       ·intro w' hSw;go_simp
        try with_reducible rfl
       try simp only[Act.put,zzA,zzE,zzF,yo,UM,zzD]
       refine tkY 15 ?_ rfl (Or.inl ⟨by rfl,?_⟩) hHeld ?_;rotate_left
       ·intro w' hSw;go_simp
        try with_reducible rfl
       try simp only[Act.put,zzA,zzE,zzF,yo,UM,zzD]
       refine tkY 16 ?_ rfl (Or.inl ⟨by rfl,?_⟩) hHeld ?_;rotate_left
       ·intro w' hSw;go_simp
        try with_reducible rfl
       try simp only[Act.put,zzA,zzE,zzF,yo,UM,zzD]
       refine aQ (i:=17) rfl (by kernel_rfl) (by kernel_rfl) (by rfl) (fun K hK=> ?_);go_simp;refine hK _ _ ?_;clear hK K
       try simp only[Act.put,zzA,zzE,zzF,yo,UM,zzD]
       refine aU (by kernel_rfl) ?_ _;refine NoPanic.normal ?_;go_wp2_with fail;go_meet;show (wr.setCell _ (.bool (decide ((m:Int)≤ed s1 (s1.polled:Int))))).drew=_
       rw[hbt]
     case rest=>
     subst hcut;obtain ⟨s3,hs3⟩:∃s3,{Br c (bK dz) s1 m with wait:=b}=s3:=⟨_,rfl⟩
     have Kt:=(xu.out.ny 16 (.bool b) (st':= {Br c (bK dz) s1 m with wait:=b}) (by simp[dh,Br]) rfl rfl).drew;have hK8:=(XO.out.setCell (p:=⟨g,16,none⟩) (fun _ _=>xu.out.gd) (.bool b)).drew;have hSt:=OD c (bK dz) m s1 HI1.out.f HB1.out.pol b vC.out;have hso:s3.taken=s3.front+sizes s3.out:=by
      rw[←hs3];show s1.taken=s1.front+sizes (aX c (bK dz) m s1.out).1
      rw[rA];exact HI1.out.tk
     have FQ:=HB1.out.held;have hle3:=HI1.out.le;have hdone:=HB1.out.done;have hq3:s3.queue=s1.queue:=by rw[←hs3];rfl
     have NH:=nS HI1.out.pos;have hmiss:∀x∈s1.out,(∀r∈bK dz x,r.1≤r.2∧r.2<ay x)∧(bK dz x).length≤1000:=fun x hx=>by
      have h1:=Fy dz (gV (HB1.out.ou x hx)).1;exact ⟨h1.1,by have:=h1.2;omega⟩
     have hB3:jL s3 (K+1):=by rw[←hs3];exact HB1.out.aX c (bK dz) m hmiss _ b
     have hl3:s3.out.length≤512:=by
      rw[←hs3];show (aX c (bK dz) m s1.out).1.length≤512
      rw[kF];exact HI1.out.w
     rw[hs3] at Kt hSt;have aeT:s3.taken=s1.taken:=by rw[←hs3];rfl
     have hf3:s3.first=s1.first:=by rw[←hs3];rfl
     have hd3:s3.done=s1.done:=by rw[←hs3];rfl
     have MG:aZ s1=au s1.queue:=rfl;have HAV:=Lib.hid (Ed Kt hso (by omega) (by rw[hf3];exact HI1.out.f) hl3 (by omega) (by rw[hq3];omega) (by rw[hq3];intro s hs;exact (HB1.out.Ho s hs).2));have HX8:=Lib.hid (HX6.out.kept hK8 XL.out);have ZK:=Lib.hid hK8;have HB3:=Lib.hid hB3;have HST:=Lib.hid hSt;have HL3:=Lib.hid hl3;have HA8:=Lib.hid Kt;clear Kt hK8 hSt hso FQ hle3 hdone hq3 NH hmiss hB3 hl3 aeT hf3 hd3 MG Hz vZ f16 m0 s0 yF hs3;obtain ⟨s0,-,-,-,-⟩:=HX8.out.cells;generalize (wr.setCell ⟨g,16,none⟩ (.bool b)).drew=w8 at*;go_wp2_with fail;refine HAV.out.mono ?_;rintro en w9 ⟨rfl,vq9,ZL,VT,os9,Y2,Ke⟩;have HX9:=Lib.hid (HX8.out.kept Ke XL.out);have FO:=Lib.hid Y2;have Vy:=Lib.hid (ZK.out.trans Ke);have hB4:=HB3.out.adv;have hl4:(fA s3).out.length≤512:=by
      have:=HL3.out;obtain ⟨⟨d,e1,-⟩,-⟩:=mP s3.out;have e2:s3.out.length=(d++(aS s3.out).2.2).length:=congrArg _ e1;rw[List.length_append] at e2;show (aS s3.out).2.2.length≤512
      omega
     obtain ⟨s4,hs4⟩:∃s4,fA s3=s4:=⟨_,rfl⟩
     rw[hs4] at HST FO hB4 hl4;have uP:=Lib.hid hB4;have HL4:=Lib.hid hl4;have DI:=FO.out.blk.cell 18;simp[dh] at DI;clear s0 Y2 Ke hB4 hl4 hs4 HAV;obtain ⟨s0,-,-,e0,e1⟩:=HX9.out.cells;cases how:s4.fD with
     |false=>
      have HO:=Lib.hid (show lZ w6 D F g c s4 w9 from ⟨D,F',vq9,ZL,VT,os9,FO.out,dX.refl _ _,ZH.out,Vy.out⟩);have hst:=HST.out;rw[if_neg (by rw[how];decide)] at hst;have hrr:=HRR.out;rw[hst] at hrr;rw[how] at DI;clear how;cases hfl:s4.failed with
      |false=>
       rw[hfl] at hrr;have HM:=Lib.hid (yC FO.out hfl);have EM:=Lib.hid hrr;clear hst hrr hfl;go_wp2_with fail;refine HM.out.mono ?_;rintro en w98 ⟨rfl,rfl⟩;go_wp2;refine leaves_cons (f:=53) (args:= #[.pointer (some ⟨w.heap.size+1+1,0,none⟩)]) (by simp) (by simp[go_sem]) ?_;refine (fH _ _).mono ?_;rintro e99 u99 w99 ⟨rfl,rfl,rfl⟩;have q:=(HX9.out.e.aC 0 (.int .i64 0)).cell 0;simp at q;refine ⟨.int .i64 0,by simp[results,Tryz.results20,go_sem,q],?_⟩;rw[EM.out];exact ⟨rfl,HO.out.put wm.out (b:=w.heap.size+1+1) (by omega) (by have:=Uc.out;omega) HH.out.lt HH.out.sub 0 _⟩
      |true=>
       rw[hfl] at hrr;have HM:=Lib.hid (ve FO.out hfl);have EM:=Lib.hid hrr;clear hst hrr hfl;go_wp2_with fail;refine HM.out.mono ?_;rintro en w98 ⟨rfl,rfl⟩;refine leaves_cons (f:=53) (args:= #[.pointer (some ⟨w.heap.size+1+1,0,none⟩)]) (by simp) (by simp[go_sem]) ?_;refine (mq _ _ w9 HX9.out.e).mono ?_;rintro e99 u99 w99 ⟨rfl,rfl,rfl⟩;have q:=((HX9.out.e.alloc (.cells #[] 174)).aC 0 (.int .i64 8)).cell 0;simp at q;refine ⟨.int .i64 8,by simp[results,Tryz.results20,go_sem,q],?_⟩;rw[EM.out];exact ⟨rfl,(HO.out.alloc _).put wm.out (b:=w.heap.size+1+1) (by omega) (by have:=Uc.out;omega) HH.out.lt HH.out.sub 0 _⟩
     |true=>
      have hst:=HST.out;rw[if_pos how] at hst;have hrr:=HRR.out;rw[hst] at hrr;rw[how] at DI;have Hu:=Lib.hid (tO FO.out uP.out (by omega) HL4.out);have VU:=Lib.hid hrr;clear how hst hrr;go_wp2_with fail;refine Hu.out.mono ?_;rintro en EI ⟨rfl,NZ⟩;have HO:=Lib.hid (lZ.step Vy.out (dX.refl _ _) ZH.out NZ);have RU:=Lib.hid (HX6.out.kept HO.out.kept XL.out);obtain ⟨D10,F10,alu,alv,alx,aly,Je,-,-,-⟩:=NZ;have nW:=Lib.hid Je;clear s0 e0 e1 Je;obtain ⟨s0,-,-,e0,e1⟩:=RU.out.cells;obtain ⟨s5,hs5⟩:∃s5,d9 c s4=s5:=⟨_,rfl⟩
      have hrr:=VU.out;rw[hs5] at hrr HO nW;have hst:=hs5;clear hs5;cases hfl:s5.failed with
      |false=>
       rw[hfl] at hrr;have HM:=Lib.hid (yC nW.out hfl);have EM:=Lib.hid hrr;clear hst hrr hfl;go_wp2_with fail;refine HM.out.mono ?_;rintro en w98 ⟨rfl,rfl⟩;go_wp2;refine leaves_cons (f:=53) (args:= #[.pointer (some ⟨w.heap.size+1+1,0,none⟩)]) (by simp) (by simp[go_sem]) ?_;refine (fH _ _).mono ?_;rintro e99 u99 w99 ⟨rfl,rfl,rfl⟩;have q:=(RU.out.e.aC 0 (.int .i64 0)).cell 0;simp at q;refine ⟨.int .i64 0,by simp[results,Tryz.results20,go_sem,q],?_⟩;rw[EM.out];exact ⟨rfl,HO.out.put wm.out (b:=w.heap.size+1+1) (by omega) (by have:=Uc.out;omega) HH.out.lt HH.out.sub 0 _⟩
      |true=>
       rw[hfl] at hrr;have HM:=Lib.hid (ve nW.out hfl);have EM:=Lib.hid hrr;clear hst hrr hfl;go_wp2_with fail;refine HM.out.mono ?_;rintro en w98 ⟨rfl,rfl⟩;refine leaves_cons (f:=53) (args:= #[.pointer (some ⟨w.heap.size+1+1,0,none⟩)]) (by simp) (by simp[go_sem]) ?_;refine (mq _ _ EI RU.out.e).mono ?_;rintro e99 u99 w99 ⟨rfl,rfl,rfl⟩;have q:=((RU.out.e.alloc (.cells #[] 174)).aC 0 (.int .i64 8)).cell 0;simp at q;refine ⟨.int .i64 8,by simp[results,Tryz.results20,go_sem,q],?_⟩;rw[EM.out];exact ⟨rfl,(HO.out.alloc _).put wm.out (b:=w.heap.size+1+1) (by omega) (by have:=Uc.out;omega) HH.out.lt HH.out.sub 0 _⟩
end
end
section
open Go.RowKit Go.Shelf
attribute [local go_sem] Oper.semAt_some
section
variable {D F:Nat→Prop} {g:Nat} {c:Cf} {st:Sd} {vq vo:Value} {vs os:List Value} {w:World}
set_option maxRecDepth 10000 in
set_option maxHeartbeats 1000000 in
theorem Gh (h:dY w D F g c st vq vs vo os) (ht:1≤c.timer) (hsum:aZ st≤1048576) (NH:st.queue.length≤1048576):
 Calls Tryz.prog 23 #[.pointer (some ⟨g,0,none⟩)] w fun e w'=>(∃A cc,e= .returned (.slice A st.queue.length cc))∧Below w.heap.size w w':=by
 obtain ⟨i0,hi,hz0,hz1,hz2⟩:=info_parts lD;have oF:=Lib.hid (gL h ht);have HH:=Lib.hid h;have x7:=h.blk.cell 7;simp[dh] at x7;obtain ⟨A,cc,rfl,hs⟩:=h.Nh;have hcap:=hs.sl.cap;have hmx:=hs.sl.mx;obtain ⟨r,hr⟩:∃r:Int,(if st.failed=true then 8 else 0)=r:=⟨_,rfl⟩
 have dr:(r==1)=false:=by rw[←hr];cases st.failed<;>rfl
 rw[hr] at oF;have sN:=Lib.hid hsum;clear h hs hr hsum;go_enter Tryz.func23,Tryz.ntmps23;go_wp2_with fail;refine oF.out.mono ?_;rintro e1 w1 ⟨rfl,rfl⟩;go_wp2
 go_loopw [2,13] (fun v i wr=>∃k xs,k≤st.queue.length∧i= .int .i64 (k:Nat)∧wr.ownsRow w.heap.size 22 1 v k xs∧Below w.heap.size w wr) (fun _ i _=>st.queue.length-(intOf i).toNat)
 case atStart=>exact ⟨0,[],Nat.zero_le _,rfl,World.ownsRow_nil _ _ _ _,Below.refl _ _⟩
 case round=>
  obtain ⟨k,xs,hk,rfl,jM,hb⟩:=hrel;by_cases hlt:k<st.queue.length
  ·obtain ⟨A2,c2,e2,hsw⟩:=(HH.out.below hb).Nh;injection e2 with e3 e4 e5
   subst e3 e5;obtain ⟨ad,Ai,ci,rfl,hbd,hc,hsl⟩:=hsw.get hlt;have hle1:=Nat.le_trans (cK st.queue (k+1)) sN.out;have hs1:=gF st.queue k hlt;have hcap1:=hsl.cap;have Yn:=hsl.mx;generalize st.queue[k]?.getD []=p at*;have hpl:p.length≤1048576:=by omega
   have pJ:=Lib.hid (jU Ai p.length ci p wr hsl (by omega));have YJ:=Lib.hid jM;have HB:=Lib.hid hb;clear hs1 hle1 hsl hsw jM hb e4;go_wp2_with fail;refine pJ.out.mono ?_;rintro e1 w1 ⟨v1,rfl,hv1,hb1⟩;obtain ⟨A1,c1,rfl,-,-⟩:=aP hv1;have U8:=own_below YJ.out hb1 (Nat.le_refl _);have hB1:=Lib.hid (HB.out.trans (hb1.mono HB.out.size));have ZM:=Lib.hid U8;clear hv1 hb1 U8 hc;go_wp2_with (at_builtin;refine wpList_append_own _ rfl _ _ 34 rfl w.heap.size 22 i0 (.slice none 0 0) 1 24 und22 hi hz0 hz1 hz2 rfl (by decide) _ _ _ rfl (ZM.out.alloc _) ⟨w1.heap.size,0,none⟩ 1 1 [.slice A1 p.length c1] rfl rfl ?c1 ?c2 ?c3 ?c4 ?c5 ?_)
   case c1=>exact cell_one_new _ _ _
   case c2=>simp[Value.oneCell']
   case c3=>unfold maxLen;omega
   case c4=>omega
   case c5=>have:=hB1.out.size;simp;omega
   intro v' w4 hown' hgrow _;have hin:∀j,Value.ownBlock u2=some j→w.heap.size≤j:=fun j hj=>(ZM.out.lt j hj).1
   have hB4:=Lib.hid ((hB1.out.alloc hB1.out.size (.cells #[.slice A1 p.length c1] 22)).grown hgrow (by have:=hB1.out.size;simp;omega) hin);have HO:=Lib.hid hown';clear hown' hgrow hin;go_wp2
   go_round
   case rel=>exact ⟨k+1,_,by omega,by go_num,HO.out,hB4.out⟩
   case measure=>simp[intOf];omega
  ·obtain rfl:k=st.queue.length:=by omega
   obtain ⟨A1,c1,rfl,-,-⟩:=aP jM;have HB:=Lib.hid hb;clear jM hb;go_wp2;go_ret;exact ⟨⟨_,_,rfl⟩,HB.out⟩
end
end
section
open Go.RowKit Go.Shelf
attribute [local go_sem] Oper.semAt_some
structure zl (c:Cf) (st:Sd) (K:Nat):Prop where
 cf:M8 c
 inv:dm st
 bnd:jL st K
section
variable {w w':World} {D F:Nat→Prop} {g:Nat} {c:Cf} {st:Sd} {vq vo:Value} {vs os:List Value} {K:Nat}
theorem zl.rG (ho:zl c st K) (x:List UInt8):zl c (eB c st x).1 K:=by
 refine ⟨ho.cf,ho.inv.eB c x,?_⟩;unfold eB;split
 ·exact ho.bnd
 ·split
  ·exact ho.bnd
  ·rename_i hx;split
   ·exact ho.bnd
   ·rename_i hc;have:=ho.cf.cap;exact ho.bnd.rG (by omega) (by omega) (by omega)
theorem zl.status (ho:zl c st K) (now aI:Int) (dz:List Nk) (hn:now≤9223372036854775807):zl c (eD c st now aI dz).1 (K+3):=by
 refine ⟨ho.cf,ho.inv.eD c now aI dz,?_⟩;unfold eD;split
 ·exact ho.bnd.mono (by omega)
 ·exact ho.bnd.status c hn aI dz
theorem zl.pM (ho:zl c st K) (now n:Int) (hn:now≤9223372036854775807):zl c (dw c st now n).1 (K+3):=by
 refine ⟨ho.cf,ho.inv.dw c now n,?_⟩;unfold dw;split
 ·exact ho.bnd.mono (by omega)
 ·split
  ·exact ho.bnd.mono (by omega)
  ·exact (ho.bnd.pM ho.inv c hn n).mono (by omega)
end
end
section
open Go.RowKit Go.Shelf
attribute [local go_sem] Oper.semAt_some
section
variable {w:World} {F:Nat→Prop} {g:Nat} {c:Cf} {st:Sd} {K:Nat}
end
end
section
open Go.RowKit Go.Shelf
section
variable {w:World} {F:Nat→Prop} {g:Nat} {c:Cf} {st:Sd} {K:Nat}
end
end
section
open Go.RowKit Go.Shelf
theorem mE {lo hi:Int} {xs:List Int} (h:within lo hi xs=true):∀x∈xs,lo≤x∧x≤hi:=by
 intro x hx;unfold within at h;simp only[Bool.not_eq_true',List.any_eq_false] at h;have:=h x hx;unfold outside at this;simp at this;omega
def VW (a0 a1 a2 a3 a4 a5 a6:Int):Cf:=⟨a0,a1,a2,a3,a4,a5,a6⟩
theorem OE {a0 a1 a2 a3 a4 a5 a6:Int} (h:iT a0 a1 a2 a3 a4 a5 a6=true):M8 (VW a0 a1 a2 a3 a4 a5 a6):=by
 unfold iT at h;simp only[Bool.and_eq_true] at h;obtain ⟨h1,h2,h3,h4,h5,h6⟩:=h;exact ⟨mE h1 a0 (by simp),mE h2 a1 (by simp),mE h3 a2 (by simp),mE h5 a5 (by simp),mE h6 a6 (by simp)⟩
theorem RV {w:World} {g:Nat} (c:Cf) (hb:aA w g 113 (dh c (.slice none 0 0) (.slice none 0 0) fF)):dY w (·=g) (·=g) g c fF (.slice none 0 0) [] (.slice none 0 0) []:=
 ⟨hb,rfl,fun _ h=>h,fun k hk=>by rw[show k=g from hk];exact hb.lt,yw _ _ _,fun k hk=>by simp[aL] at hk,fun i p hi=>by simp[fF] at hi,yw _ _ _,fun k hk=>by simp[aL] at hk,fun i x hi=>by simp[fF] at hi,fun i j v hi _=>by simp at hi⟩
end
section
open Go.RowKit Go.Shelf
section
variable {w w' W W':World} {D F D' F' N N':Nat→Prop} {g K K':Nat} {c:Cf} {st st':Sd} {vq vo:Value} {vs os:List Value}
def minD (g:Nat) (vq vo:Value) (os:List Value) (k:Nat):Prop:=k=g∨aL vq=some k∨aL vo=some k∨∃i:Nat,os[i]? =some (Value.pointer (some ⟨k,0,none⟩))
theorem dY.min_le (h:dY w D F g c st vq vs vo os) {k:Nat} (hk:minD g vq vo os k):D k:=by
 rcases hk with rfl|hk|hk|⟨i,hi⟩
 ·exact h.gd
 ·exact h.qd k hk
 ·exact h.od k hk
 ·have hl:i<st.out.length:=by
   have h1:=(List.getElem?_eq_some_iff.1 hi).1;have h2:=h.nR.1;omega
  obtain ⟨p,Ap,cp,vp,Ar,cr,e,ho⟩:=h.oe i _ (List.getElem?_eq_getElem hl);rw[hi] at e;cases e;exact ho.d
theorem dY.min (h:dY w D F g c st vq vs vo os):dY w (minD g vq vo os) F g c st vq vs vo os:=
 {blk:=h.blk,gd:= .inl rfl,sub:=fun k hk=>h.sub k (h.min_le hk),lt:=h.lt,qr:=h.qr,qd:=fun k hk=> .inr (.inl hk)
  qe:=fun i p hi=>by
   obtain ⟨A,cc,e,hs,hf⟩:=h.qe i p hi;exact ⟨A,cc,e,hs,fun ad ha=>⟨(hf ad ha).1,fun hm=>(hf ad ha).2 (h.min_le hm)⟩⟩
  nR:=h.nR,od:=fun k hk=> .inr (.inr (.inl hk))
  oe:=fun i x hi=>by
   obtain ⟨p,Ap,cp,vp,Ar,cr,e,ho⟩:=h.oe i x hi;refine ⟨p,Ap,cp,vp,Ar,cr,e,⟨ho.blk,.inr (.inr (.inr ⟨i,e⟩)),ho.f,ho.ps,fun ad ha=>⟨(ho.pf ad ha).1,fun hm=>(ho.pf ad ha).2 (h.min_le hm)⟩,fun j v hj ad ha=>⟨(ho.pe j v hj ad ha).1,fun hm=>(ho.pe j v hj ad ha).2 (h.min_le hm)⟩,ho.rs,fun ad ha=>⟨(ho.rf ad ha).1,fun hm=>(ho.rf ad ha).2 (h.min_le hm)⟩⟩⟩
  inj:=h.inj}
theorem dY.min_u8 (h:dY w D F g c st vq vs vo os) {k:Nat} (hk:minD g vq vo os k) (cs:Array Value) (fr:Nat × Nat):w.heap[k]? ≠some (.cells cs 5 fr):=by
 intro hc;rcases hk with rfl|hk|hk|⟨i,hi⟩
 ·have h1:w.heap[k]? =some (.cells _ 113 (0,0)):=h.blk;rw[hc] at h1;injection h1 with h1
  injection h1 with _ h2 _
  exact absurd h2 (by decide)
 ·obtain ⟨cur,h1,_⟩:=h.qr.row hk;rw[hc] at h1;injection h1 with h1
  injection h1 with _ h2 _
  exact absurd h2 (by decide)
 ·obtain ⟨cur,h1,_⟩:=h.nR.row hk;rw[hc] at h1;injection h1 with h1
  injection h1 with _ h2 _
  exact absurd h2 (by decide)
 ·have hl:i<st.out.length:=by
   have h1:=(List.getElem?_eq_some_iff.1 hi).1;have h2:=h.nR.1;omega
  obtain ⟨p,Ap,cp,vp,Ar,cr,e,ho⟩:=h.oe i _ (List.getElem?_eq_getElem hl);rw[hi] at e;cases e;have h1:w.heap[k]? =some (.cells _ 120 (0,0)):=ho.blk;rw[hc] at h1;injection h1 with h1
  injection h1 with _ h2 _
  exact absurd h2 (by decide)
structure TD (w:World) (N:Nat→Prop) (c:Cf) (g:Nat) (st:Sd) (K:Nat) (W:World):Prop where
 am:∃D F vq vs vo os,dY W D F g c st vq vs vo os∧(∀k,D k→w.heap.size≤k∧∀cs fr,W.heap[k]? ≠some (.cells cs 5 fr))∧∀k,N k→¬F k
 ok:zl c st K
 eH:Below w.heap.size w W
 VX:∀k,N k→k<W.heap.size
structure ZN (w:World) (N:Nat→Prop) (c:Cf) (g:Nat) (st':Sd) (K':Nat) (W w':World):Prop where
 td:TD w N c g st' K' w'
 ns:∀k,N k→w'.heap[k]? =W.heap[k]?
 u8:∀(k:Nat) cs fr,W.heap[k]? =some (Obj.cells cs 5 fr)→w'.heap[k]? =W.heap[k]?
 sz:W.heap.size≤w'.heap.size
 eH:Below w.heap.size W w'
theorem TD.more (h:TD w N c g st K W) (hb:Below W.heap.size W W'):TD w N c g st K W':=by
 obtain ⟨D,F,vq,vs,vo,os,h1,h2,h3⟩:=h.am;refine ⟨⟨D,F,vq,vs,vo,os,h1.below hb,fun k hk=>⟨(h2 k hk).1,fun cs fr hc=> ?_⟩,h3⟩,h.ok,h.eH.trans (hb.mono h.eH.size),fun k hk=>Nat.lt_of_lt_of_le (h.VX k hk) hb.size⟩;rw[hb.block k (h1.lt k (h1.sub k hk))] at hc;exact (h2 k hk).2 cs fr hc
theorem TD.add (h:TD w N c g st K W) (hb:Below W.heap.size W W') (hn:∀k,N' k→N k∨(W.heap.size≤k∧k<W'.heap.size)):TD w N' c g st K W':=by
 have hm:=h.more hb;obtain ⟨D,F,vq,vs,vo,os,h1,h2,h3⟩:=h.am;obtain ⟨D2,F2,vq2,vs2,Ud,os2,g1,g2,g3⟩:=hm.am;refine ⟨⟨D,F,vq,vs,vo,os,h1.below hb,fun k hk=>⟨(h2 k hk).1,fun cs fr hc=> ?_⟩,fun k hk hf=> ?_⟩,h.ok,hm.eH,fun k hk=> ?_⟩
 ·rw[hb.block k (h1.lt k (h1.sub k hk))] at hc;exact (h2 k hk).2 cs fr hc
 ·rcases hn k hk with e|e
  ·exact h3 k e hf
  ·have:=h1.lt k hf;omega
 ·rcases hn k hk with e|e
  ·exact Nat.lt_of_lt_of_le (h.VX k e) hb.size
  ·exact e.2
theorem TD.grown (h:TD w N c g st K W) {row:Option Nat} (hg:W.grownBy W' row) (hr:∀r,row=some r→N r∧w.heap.size≤r):TD w N c g st K W':=by
 obtain ⟨D,F,vq,vs,vo,os,h1,h2,h3⟩:=h.am;have hF:∀k,F k→W'.heap[k]? =W.heap[k]? :=fun k hk=>hg.block k (h1.lt k hk) (fun e=>h3 k (hr k e.symm).1 hk)
 refine ⟨⟨D,F,vq,vs,vo,os,h1.stay hF,fun k hk=>⟨(h2 k hk).1,fun cs fr hc=> ?_⟩,h3⟩,h.ok,h.eH.grown hg h.eH.size (fun r e=>(hr r e).2),fun k hk=>Nat.lt_of_lt_of_le (h.VX k hk) hg.size⟩;rw[hF k (h1.sub k hk)] at hc;exact (h2 k hk).2 cs fr hc
theorem xK (h:TD w N c g st K W) (hD:∀k,D k→w.heap.size≤k∧∀cs fr,W.heap[k]? ≠some (.cells cs 5 fr)) (hN:∀k,N k→¬F k) (hDF:∀k,D k→F k) (hG:lZ W D F g c st' w') (ho:zl c st' K'):ZN w N c g st' K' W w':=by
 obtain ⟨D',F',oG,vs',kX,os',a1,a2,a3,a4⟩:=hG;have hb:Below w.heap.size W w':=a4.below (fun k _ hk=>(hD k hk).1) h.eH.size;refine ⟨⟨⟨_,F',oG,vs',kX,os',a1.min,fun k hk=>⟨?_,fun cs fr=>a1.min_u8 hk cs fr⟩,fun k hk hf=> ?_⟩,ho,h.eH.trans hb,fun k hk=>Nat.lt_of_lt_of_le (h.VX k hk) a4.size⟩,fun k hk=> ?_,fun k cs fr hc=> ?_,a4.size,hb⟩
 ·rcases a2 k (a1.min_le hk) with e|e
  ·exact (hD k e).1
  ·have:=h.eH.size;omega
 ·rcases a3 k hf with e|e
  ·exact hN k hk e
  ·have:=h.VX k hk;omega
 ·have hh:=Array.getElem?_eq_getElem (h.VX k hk);rw[a4.same _ _ hh (fun e=>hN k hk (hDF k e)),hh]
 ·rw[hc];exact a4.same _ _ hc (fun e=>(hD k e).2 cs fr hc)
theorem LA (h:TD w N c g st K W) {A:Option Addr} {n cc:Nat} {x:List UInt8} (hx:Sl W W.heap.size A n cc (cu x)):
 Calls Tryz.prog 48 #[.pointer (some ⟨g,0,none⟩),.slice A n cc] W fun e w'=>e= .returned (.int .i64 (eB c st x).2)∧ZN w N c g (eB c st x).1 K W w':=by
 obtain ⟨D,F,vq,vs,vo,os,h1,h2,h3⟩:=h.am;refine (Gb h1 h.ok.cf h.ok.bnd.held (Nat.le_trans (nS fun s hs=>(h.ok.bnd.Ho s hs).1) h.ok.bnd.held) hx).mono ?_;rintro e w' ⟨rfl,hO⟩;exact ⟨rfl,xK h h2 h3 h1.sub hO (h.ok.rG x)⟩
theorem OG (h:TD w N c g st K W) (hK:K≤90000) (now n:Int) (iR:now≤9223372036854775807) (hn:n≤9223372036854775807):
 Calls Tryz.prog 50 #[.pointer (some ⟨g,0,none⟩),.int .i64 now,.int .i64 n] W fun e w'=>∃v,e= .returned (.tuple #[v,.int .i64 (dw c st now n).2.2])∧w'.ownsRow W.heap.size 5 1 v (QU (dw c st now n).2.1).length (cu (QU (dw c st now n).2.1))∧ZN w N c g (dw c st now n).1 (K+3) W w':=by
 obtain ⟨D,F,vq,vs,vo,os,h1,h2,h3⟩:=h.am;have key:Calls Tryz.prog 50 #[.pointer (some ⟨g,0,none⟩),.int .i64 now,.int .i64 n] W (FJ W D F g c (dw c st now n)):=by
  by_cases hx:st.failed=true∨n<0
  ·exact DU h1 h.ok.cf.timer.1 now n hx
  ·have hx':=not_or.1 hx;exact Ja h1 h.ok.cf h.ok.bnd hK h.ok.inv (by simpa using hx'.1) now n iR (by omega) hn
 refine key.mono ?_;rintro e w' ⟨v,he,hv,hO⟩;exact ⟨v,he,hv,xK h h2 h3 h1.sub hO (h.ok.pM now n iR)⟩
theorem VY (h:TD w N c g st K W):Calls Tryz.prog 49 #[.pointer (some ⟨g,0,none⟩)] W fun e w'=>e= .returned (.int .i64 (E9 st))∧Below W.heap.size W w':=by
 obtain ⟨D,F,vq,vs,vo,os,h1,h2,h3⟩:=h.am;exact Bn h1 h.ok.cf.timer.1 h.ok.bnd.held h.ok.inv.le h.ok.inv.w h.ok.bnd.ou
theorem Gi (h:TD w N c g st K W):Calls Tryz.prog 22 #[.pointer (some ⟨g,0,none⟩)] W fun e w'=>e= .returned (.agg (TJ st))∧Below W.heap.size W w':=by
 obtain ⟨D,F,vq,vs,vo,os,h1,h2,h3⟩:=h.am;exact Jl h1 h.ok.cf.timer.1 h.ok.inv.f (by have:=h.ok.inv.w;omega)
theorem LB (h:TD w N c g st K W):Calls Tryz.prog 23 #[.pointer (some ⟨g,0,none⟩)] W fun e w'=>(∃A cc,e= .returned (.slice A st.queue.length cc))∧Below W.heap.size W w':=by
 obtain ⟨D,F,vq,vs,vo,os,h1,h2,h3⟩:=h.am;exact Gh h1 h.ok.cf.timer.1 h.ok.bnd.held (Nat.le_trans (nS fun s hs=>(h.ok.bnd.Ho s hs).1) h.ok.bnd.held)
theorem LC (h:TD w N c g st K W) (hb:Below W.heap.size W W') (hK:K≤90000) (hf:st.failed=false) (now aI:Int) (hn:now≤9223372036854775807) (A:Option Addr) (n cc:Nat) (dz:List Nk) (hN:bP W' A n cc dz) (hA:∀ad,A=some ad→W.heap.size≤ad.block) (hv:bU aI dz=true):
 Calls Tryz.prog 20 #[.pointer (some ⟨g,0,none⟩),.int .i64 now,.agg #[.int .i64 aI,.slice A n cc]] W' fun e w'=>e= .returned (.int .i64 (eD c st now aI dz).2)∧ZN w N c g (eD c st now aI dz).1 (K+3) W' w':=by
 have h':=h.more hb;obtain ⟨D,F,vq,vs,vo,os,h1,h2,h3⟩:=h.am;have h2':∀k,D k→w.heap.size≤k∧∀cs fr,W'.heap[k]? ≠some (.cells cs 5 fr):=fun k hk=>⟨(h2 k hk).1,fun cs fr hc=>by
  rw[hb.block k (h1.lt k (h1.sub k hk))] at hc;exact (h2 k hk).2 cs fr hc⟩
 refine (wF (h1.below hb) h.ok.cf h.ok.bnd hK h.ok.inv hf now aI hn A n cc dz hN (fun ad e _ hd=>by have:=hA ad e;have:=h1.lt _ (h1.sub _ hd);omega) hv).mono ?_;rintro e w' ⟨rfl,hO⟩;exact ⟨rfl,xK h' h2' h3 h1.sub hO (h.ok.status now aI dz hn)⟩
end
theorem VZ (a0 a1 a2 a3 a4 a5 a6:Int) (w:World) (hr:iT a0 a1 a2 a3 a4 a5 a6=true):Calls Tryz.prog 47 #[.agg (ML a0 a1 a2 a3 a4 a5 a6)] w fun e w'=>∃g,e= .returned (.tuple #[.pointer (some ⟨g,0,none⟩),.int .i64 0])∧TD w (fun _=>False) (VW a0 a1 a2 a3 a4 a5 a6) g fF 0 w':=by
 refine (Zx a0 a1 a2 a3 a4 a5 a6 w).mono ?_;rintro e w' ⟨hb,⟨h1,s,he,hs,hblk⟩|⟨h,_⟩⟩
 ·have ha:=RV (VW a0 a1 a2 a3 a4 a5 a6) hblk;refine ⟨s,he,⟨_,_,_,_,_,_,ha,fun k hk=>⟨by rw[show k=s from hk];exact hs,fun cs fr=>ha.min_u8 (.inl hk) cs fr⟩,fun k hk=>hk.elim⟩,⟨OE h1,qo.new,jL.new⟩,hb,fun k hk=>hk.elim⟩
 ·rw[hr] at h;cases h
end
section
abbrev Fl:=Bool × Bool × Bool
def Ue:Fl:=(false,false,false)
structure Sp where
 fl:List Fl
 da:List UInt8
 size:Option Nat
def zm:Sp:=⟨[],[],none⟩
def dW (l:List Fl) (i:Nat):Fl:=l[i]?.getD Ue
def kK (l:List Fl):Nat:=(l.map (fun f=>f.1.toNat)).sum
def eT (p:Sp):Bool:=match p.size with
 |none=>false
 |some k=>decide (0<k)&&decide (kK p.fl=k)
def bZ:Option Sp→Bool
 |none=>false
 |some p=>eT p
structure Rc where
 m:Nat→Option Sp
 next:Nat
 status:Nat
 high:Nat
 ro:Bool
 gu:Nat
 exp:Int
 due:Bool
 qH:Int
 now:Int
 op:List UInt8
 sm:Bool
def lq:Rc:=⟨fun _=>none,0,0,0,false,0,0,false,0,0,[],false⟩
def dN (sn:Nat):Nat:=(sn+1)%1024
def bD (st:Rc) (sn:Nat):Nat:=(sn+1024-st.next)%1024
def jR (m:Nat→Option Sp):Nat→Nat→Nat
 |0,sn=>sn
 |f+1,sn=>if bZ (m sn)=true then jR m f (dN sn) else sn
def o8 (c:Cf) (st:Rc):Rc:= {st with ro:=true,gu:=st.high,exp:=IntKind.i64.wrap (st.now+c.reorder)}
def gB (st:Rc) (now:Int):Rc:= {st with now:=if st.now<now then now else st.now}
def rW (c:Cf) (st:Rc):Rc:=
 let s2:Rc:= {st with status:=jR st.m 1024 st.gu,due:=true,ro:=false}
 if s2.high≠s2.status then o8 c s2 else s2
def fQ (c:Cf) (st:Rc) (now:Int):Rc:=
 if st.ro=false∨(gB st now).now<st.exp then gB st now else rW c (gB st now)
def jo (p:List UInt8) (a b:Bool):List (Fl × UInt8):=p.mapIdx (fun j x=>((true,decide (j=0)&&a,decide (j+1=p.length)&&b),x))
def dB (s e:Bool) (n:Nat):Nat→List (List UInt8)→List (Fl × UInt8)
 |_,[]=> []
 |i,p::r=>jo p (decide (0<i)||s) (decide (i+1<n)||e)++dB s e n (i+1) r
def xL:List (Fl × UInt8)→Nat→List Fl × List UInt8→List Fl × List UInt8
 | [],_,x=>x
 |(f,b)::r,at_,x=>xL r (at_+1) (if (dW x.1 at_).1=true then x else (x.1.set at_ f,x.2.set at_ b))
def iw (k:Nat) (l:List Fl):List Fl:=l++List.replicate (k-l.length) Ue
def nG (k:Nat) (l:List UInt8):List UInt8:=l++List.replicate (k-l.length) 0
def jy (x:iN):Nat:=x.off+au x.ps
def uk (x:iN):Bool:= !x.sg||x.la
def Bt (p:Sp) (x:iN):Bool:=match p.size with
 |some k=> !(decide (jy x≤k)&&(!uk x||decide (jy x=k)))
 |none=>uk x&&(decide (jy x<p.fl.length)&&(p.fl.drop (jy x)).any (fun f=>f.1))
def dO (p:Sp) (x:iN):Sp:=
 let y:=xL (dB x.s x.e x.ps.length 0 x.ps) x.off (iw (jy x) p.fl,nG (jy x) p.da)
 ⟨y.1,y.2,if uk x=true then some (jy x) else p.size⟩
def pR (b:List UInt8) (begins last:Bool) (op:List UInt8) (sm:Bool):List UInt8 × Bool × List (List UInt8):=
 if begins=false∧sm=false then (op,false,[])
 else
  let o2:=(if begins=true then [] else op)++b
  if o2.length≤9000∧last=false then (o2,true,[])
  else ([],false,if o2.length≤9000 then [o2] else [])
def nH (fl:List Fl) (da:List UInt8) (n:Nat):Nat→Nat→Nat→List UInt8→Bool→List UInt8 × Bool × List (List UInt8)
 |0,_,_,op,sm=>(op,sm,[])
 |k+1,i,fr,op,sm=>
  if i<n∧(dW fl i).2.1=false then nH fl da n k (i+1) fr op sm
  else
   let y:=pR ((da.take i).drop fr) (dW fl fr).2.1 (decide (i<n)||(dW fl (i-1)).2.2) op sm
   let z:=nH fl da n k (i+1) i y.1 y.2.1
   (z.1,z.2.1,y.2.2++z.2.2)
def eZ (m:Nat→Option Sp) (k:Nat) (v:Option Sp):Nat→Option Sp:=fun j=>if j=k then v else m j
def wG (p:Sp):Nat:=p.size.getD 0
def vH (st:Rc) (p:Sp):List UInt8 × Bool × List (List UInt8):=nH p.fl p.da (wG p) (wG p) 1 0 st.op st.sm
def wV (st:Rc) (p:Sp):Rc:= {st with op:=(vH st p).1,sm:=(vH st p).2.1,m:=eZ st.m st.next none,next:=dN st.next}
def bR:Nat→Rc→Rc × List (List UInt8)
 |0,st=>(st,[])
 |f+1,st=>match st.m st.next with
  |none=>(st,[])
  |some p=>if eT p=true then ((bR f (wV st p)).1,(vH st p).2.2++(bR f (wV st p)).2) else (st,[])
def kL (st:Rc) (x:iN) (p:Sp):Rc:=
 let s1:Rc:= {st with m:=eZ st.m x.sn (some (dO p x)),due:=st.due||x.po}
 let s2:Rc:= {s1 with high:=if bD s1 s1.high≤bD s1 x.sn then dN x.sn else s1.high}
 {s2 with status:=jR s2.m 1024 s2.status}
def zn (c:Cf) (st:Rc):Rc:=
 let s1:Rc:=if bD st st.gu=0∨512<bD st st.gu then {st with ro:=false} else st
 if s1.ro=false∧s1.high≠s1.next then o8 c s1 else s1
def fE (st:Rc) (sn:Nat):Sp:=(st.m sn).getD zm
def ul (c:Cf) (st:Rc) (x:iN):Rc × List (List UInt8) × Nat:=
 if 512≤bD st x.sn then ({st with due:=st.due||x.po},[],0)
 else if Bt (fE st x.sn) x=true then (st,[],9)
 else
  let D:=bR 1024 (kL st x (fE st x.sn))
  (zn c D.1,D.2,0)
def bX (c:Cf) (st:Rc) (now:Int) (bs:List UInt8):Rc × List (List UInt8) × Nat:=
 match oZ bs with
 | .inl er=>(fQ c st now,[],er)
 | .inr x=>ul c (fQ c st now) x
def dD:List Fl→Nat→Nat→List (Nat × Nat)
 | [],i,fr=>if fr<i then [(fr,i-1)] else []
 |f::r,i,fr=>if f.1=false then dD r (i+1) fr else if fr<i then (fr,i-1)::dD r (i+1) (i+1) else dD r (i+1) (i+1)
def dP (sn:Nat) (x:Nat × Nat):Nk:=⟨sn,true,x.1,x.2⟩
def iX (sn:Nat):Option Sp→List Nk
 |none=> [⟨sn,false,0,0⟩]
 |some p=>match p.size with
  |some k=>(dD (iw k p.fl) 0 0).map (dP sn)
  |none=>(dD p.fl 0 0).map (dP sn)++ [⟨sn,true,p.fl.length,32767⟩]
def o9 (st:Rc):Nat→Nat→List Nk→Nat × List Nk
 |0,_,l=>(st.status,l)
 |k+1,sn,l=>
  if sn=st.status then (st.status,l)
  else if bZ (st.m sn)=true then o9 st k (dN sn) l
  else if 512<l.length+(iX sn (st.m sn)).length then (sn,l)
  else o9 st k (dN sn) (l++iX sn (st.m sn))
def iO (st:Rc):Nat × List Nk:=o9 st 1024 st.next []
end
end Go.Proofs.YtiecgfahidpldaaGreat
