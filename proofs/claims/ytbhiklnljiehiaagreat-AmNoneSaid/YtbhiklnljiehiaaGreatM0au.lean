/- amrecv: Report. status.Fit. amrecv: goes. amrecv: Grant. amrecv: part. -/
import Derived.Test.YtbhiklnljiehiaaGreatM0ab
import Derived.Test.YtbhiklnljiehiaaGreatM0ag
import Derived.Test.YtbhiklnljiehiaaGreatM0aj
import Derived.Test.YtbhiklnljiehiaaGreatM0am
import Derived.Test.YtbhiklnljiehiaaGreatM0ao
import Derived.Test.YtbhiklnljiehiaaGreatM0at
import Derived.BigQuiet
namespace Go.Proofs.YtbhiklnljiehiaaGreat
section
open Go.RowKit Go.Shelf
attribute [local go_sem] Oper.semAt_some
theorem KA {st:Rc} {f sn:Nat} {l:List Nk} (h:sn≠st.status) (hc:fO (st.m sn)=true):sO st (f+1) sn l=sO st f (fD sn) l:=by
 rw[sO,if_neg h,if_pos hc]
theorem KB {st:Rc} {f sn:Nat} {l:List Nk} (h:sn≠st.status) (hc:fO (st.m sn)=false) (hl:512<l.length+(mq sn (st.m sn)).length):sO st (f+1) sn l=(sn,l):=by
 rw[sO,if_neg h,if_neg (by rw[hc];simp),if_pos hl]
theorem KC {st:Rc} {f sn:Nat} {l:List Nk} (h:sn≠st.status) (hc:fO (st.m sn)=false) (hl:¬512<l.length+(mq sn (st.m sn)).length):sO st (f+1) sn l=sO st f (fD sn) (l++mq sn (st.m sn)):=by
 rw[sO,if_neg h,if_neg (by rw[hc];simp),if_neg hl]
theorem NC {sn:Nat} {o:Option Sp} (h:∀p,o=some p→wF p∧Fy p):(mq sn o).length≤40000:=by
 cases o with
 |none=>simp[mq]
 |some p=>
  obtain ⟨h1,h2⟩:=h p rfl;have:=ng p.fl 0 0;have:=h1.le;cases hs:p.size with
  |none=>rw[BR hs];simp;omega
  |some k=>rw[BQ h2 hs];simp;omega
def adt (w:World) (R:Nat × List Nk) (e:Ending) (w':World):Prop:=
 ∃A c,e= .returned (.tuple #[.agg #[.int .i64 (R.1:Nat),.slice A R.2.length c],.int .i64 0])∧bI w' A R.2.length c R.2∧(∀ad,A=some ad→w.heap.size≤ad.block)∧Below w.heap.size w w'
def rQ (st:Rc):Prop:=∀k p,st.m k=some p→Fy p
section
variable {w w':World} {T:Nat→Nat} {g M n:Nat} {c:Cf} {st:Rc} {vo:Value}
theorem fV.entry (h:fV w T g M n c st vo) (ho:dH st) (hz:rQ st) {k:Nat} (hk:k≤1023):∃v,(Instr.lookup 128 (.map (some M)) (.int .i64 k) false).run Tryz.prog w= .ok v w∧
 Calls Tryz.prog 117 #[v] w (fun e w'=>e= .returned (.bool (fO (st.m k)))∧Below w.heap.size w w')∧
 ∀W,Below w.heap.size w W→Calls Tryz.prog 118 #[.int .i64 (k:Nat),v] W (U0 W (mq k (st.m k))):=by
 obtain ⟨v,hr,⟨hm,rfl⟩|⟨p,b,vf,vd,hm,rfl,hs,_⟩⟩:=h.look hk
 ·refine ⟨_,hr,?_,?_⟩
  ·rw[hm];exact rC w
  ·intro W _;rw[hm];exact Dw k W
 ·refine ⟨_,hr,?_,?_⟩
  ·rw[hm];exact rD hs (ho.m k p hm).2.2
  ·intro W hW;rw[hm];have hbl:=hs.blk.lt;refine Dx k b p vf vd W (hs.stay (hW.block b hbl) (fun j hj=>hW.block j (hs.fr.lt j hj).2) (fun j hj=>hW.block j (hs.dr.lt j hj).2)) (ho.m k p hm).2.2 (hz k p hm)
theorem KD {st:Rc} {f sn:Nat} {l:List Nk} (h:sn=st.status):sO st f sn l=(st.status,l):=by
 cases f with
 |zero=>rfl
 |succ f=>rw[sO,if_pos h]
theorem Jq {wr:World} {b:Nat} {x y:Value} {A:Option Addr} {c:Nat} {l:List Nk} (hb1:au wr b 133 #[x,y]) (hv:wr.ownsRow w.heap.size 197 4 (.slice A l.length c) l.length (mG l)) (hB:Below w.heap.size w wr) (hbl:w.heap.size≤b) (u0 u1:Value):
 bI ((wr.setCell ⟨b,0,none⟩ u0).setCell ⟨b,1,none⟩ u1) A l.length c l∧(∀ad,A=some ad→w.heap.size≤ad.block)∧Below w.heap.size w ((wr.setCell ⟨b,0,none⟩ u0).setCell ⟨b,1,none⟩ u1)∧au ((wr.setCell ⟨b,0,none⟩ u0).setCell ⟨b,1,none⟩ u1) b 133 #[u0,u1]:=by
 have h1:au (wr.setCell ⟨b,0,none⟩ u0) b 133 #[u0,y]:=by simpa using hb1.av 0 u0
 have h2:au ((wr.setCell ⟨b,0,none⟩ u0).setCell ⟨b,1,none⟩ u1) b 133 #[u0,u1]:=by simpa using h1.av 1 u1
 have v1:=ownsRow_setCell_other (a:=⟨b,0,none⟩) hv (fT hv hb1 (by decide)) u0;have v2:=ownsRow_setCell_other (a:=⟨b,1,none⟩) v1 (fT v1 h1 (by decide)) u1;obtain ⟨A',c',e,hN,hf⟩:=bI.cK v2;cases e;exact ⟨hN,fun ad e=>(hf ad e).1,(hB.setCell (p:=⟨b,0,none⟩) hbl u0).setCell (p:=⟨b,1,none⟩) hbl u1,h2⟩
set_option maxRecDepth 100000 in
set_option maxHeartbeats 4000000 in
theorem Fz (h:fV w T g M n c st vo) (ho:dH st) (hz:rQ st):
 Calls Tryz.prog 81 #[.pointer (some ⟨g,0,none⟩)] w (adt w (sP st)):=by
 obtain ⟨i0,hi,hz0,hz1,hz2⟩:=pW;obtain ⟨R,hR⟩:∃R,R=sP st:=⟨_,rfl⟩
 rw[←hR];have hB0:=(Below.refl w.heap.size w).alloc (Nat.le_refl _) (.cells #[.int .i64 0,.slice none 0 0] 133);have hb0:=au.new w 133 #[.int .i64 0,.slice none 0 0];have hsz0:=World.size_alloc w (.cells #[.int .i64 0,.slice none 0 0] 133);have hno:=mX (h.alloc (.cells #[.int .i64 0,.slice none 0 0] 133));have KE:=Lib.hid hno;have HH:=Lib.hid h;have HO:=Lib.hid ho;have HZ:=Lib.hid hz;have HR:=Lib.hid hR;have hgl:=h.blk.lt;obtain ⟨y3,y4,y7,y8,y9,Dm,Nf,uk,y13,Bt,Gg,vS,MG,Da⟩:=h.cells;have hn1:=ho.n1;have hn2:=ho.n2;clear y3 y4 Dm Nf uk y13 Bt Gg vS MG Da hno h ho hz hR hb0 hsz0 hB0;go_enter Tryz.func81,Tryz.ntmps81;go_wp2_with fail;refine KE.out.mono ?_;rintro e1 w1 ⟨rfl,rfl⟩;go_wp2_with fail;have hb1:=(au.new w 133 #[.int .i64 0,.slice none 0 0]).alloc (.cells #[.int .i64 (st.status:Nat),.slice none 0 0] 133);have hb2:=au.new (w.alloc (.cells #[.int .i64 0,.slice none 0 0] 133)) 133 #[.int .i64 (st.status:Nat),.slice none 0 0];rw[World.size_alloc] at hb2;have Pd:Below w.heap.size w ((w.alloc (.cells #[.int .i64 0,.slice none 0 0] 133)).alloc (.cells #[.int .i64 (st.status:Nat),.slice none 0 0] 133)):=((Below.refl _ w).alloc (Nat.le_refl _) _).alloc (by simp) _;have Jr:(st.status+1024-st.next)%1024≤1024:=by omega
 go_loopg [5] 1024 (fun gk s5 wr=>∃(sn:Nat) (l:List Nk) (v:Value),s5= .int .i64 (sn:Nat)∧sn≤1023∧R=sO st gk sn l∧l.length≤512∧(st.status+1024-sn)%1024≤gk∧au wr w.heap.size 133 #[.int .i64 0,.slice none 0 0]∧
  au wr (w.heap.size+1) 133 #[.int .i64 (st.status:Nat),v]∧wr.ownsRow w.heap.size 197 4 v l.length (mG l)∧Below w.heap.size w wr)
 case atStart=>exact ⟨st.next,[],_,rfl,hn1,HR.out,by simp,Jr,hb1,hb2,World.ownsRow_nil _ _ _ _,Pd⟩
 case round=>
  clear hb1 hb2 Pd Jr y7 y8 y9;obtain ⟨sn,l,v,rfl,hsn,hr,hl,Jr,hb1,hb2,hv,hB⟩:=hrel;obtain ⟨Av,cv,rfl,hNv,gP⟩:=bI.cK hv;have hA:=HH.out.below hB;have x9:=hA.cells.2.2.2.2.1;have x7:=hA.cells.2.2.1;by_cases hs:sn=st.status
  ·subst hs;rw[KD rfl] at hr;have c0:=hb2.cell 0;have c1:=hb2.cell 1;have d0:=hb1.frozen 0;have d1:=hb1.frozen 1;have d2:=hb1.cell 0;have d3:=hb1.cell 1;simp at c0 c1 d2 d3;obtain ⟨f1,f2,f3,f4⟩:=Jq (w:=w) hb1 hv hB (Nat.le_refl _) (.int .i64 (st.status:Nat)) (.slice Av l.length cv);have F1:=Lib.hid f1;have F2:=Lib.hid f2;have F3:=Lib.hid f3;have F4:=Lib.hid f4;clear f1 f2 f3 f4 hb1 hb2 hv hB hA hNv gP x7;go_wp2_with fail;have q0:=F4.out.cell 0;have q1:=F4.out.cell 1;simp at q0 q1;refine bodyPost_ret (v:= .tuple #[.agg #[.int .i64 (st.status:Nat),.slice Av l.length cv],.int .i64 0]) ?_ rfl ?_
   ·simp[results,Tryz.results81,go_sem,q0,q1]
   ·rw[hr];exact ⟨Av,cv,rfl,F1.out,F2.out,F3.out⟩
  ·obtain ⟨f,rfl⟩:∃f,gk=f+1:=⟨gk-1,by omega⟩
   have hne:¬((sn:Int)=(st.status:Int)):=by omega
   have U2:(st.status+1024-fD sn)%1024≤f:=by unfold fD;omega
   have hup:fD sn≤1023:=by unfold fD;omega
   have hand:bits BinOp.and IntKind.i64 ((sn:Int)+1) 1023=((fD sn:Nat):Int):=by rw[pQ];unfold fD;omega
   obtain ⟨v,hlk,hcm,hent⟩:=hA.entry HO.out HZ.out hsn;have hel:(mq sn (st.m sn)).length≤40000:=NC fun p hp=>⟨(HO.out.m sn p hp).2.2,HZ.out sn p hp⟩
   have HCM:=Lib.hid hcm;have HB:=Lib.hid hB;have HUP:=Lib.hid hup;have HGK:=Lib.hid U2;cases hcp:fO (st.m sn) with
   |true=>
    rw[hcp] at HCM;rw[KA hs hcp] at hr;have HRR:=Lib.hid hr;have HV:=Lib.hid hv;have HB1:=Lib.hid hb1;have HB2:=Lib.hid hb2;clear hcm hent hr Jr U2 hup hcp hB hA hv hb1 hb2 hel hNv gP;generalize fD sn=q at*;go_wp2_with fail;refine HCM.out.mono ?_;rintro e1 w1 ⟨rfl,hb1⟩;go_wp2
    go_roundg f
    case measure=>omega
    case rel=>exact ⟨q,l,_,rfl,HUP.out,HRR.out,hl,HGK.out,HB1.out.below hb1 HB1.out.lt,HB2.out.below hb1 HB2.out.lt,own_below HV.out hb1 (Nat.le_refl _),HB.out.trans (hb1.mono HB.out.size)⟩
   |false=>
    rw[hcp] at HCM;have Y3:=Lib.hid hent;clear hcm hent;have HV:=Lib.hid hv;have HB1:=Lib.hid hb1;have HB2:=Lib.hid hb2;have HHS:=Lib.hid hs;have HCP:=Lib.hid hcp;have HRR:=Lib.hid hr;clear hv hb1 hb2 hs hcp hr hB hA hNv gP Jr U2 hup;go_wp2_with fail;refine HCM.out.mono ?_;rintro e1 w1 ⟨rfl,hb1⟩;have HBa:=Lib.hid hb1;clear hb1 HCM;go_wp2_with fail;refine (Y3.out w1 HBa.out).mono ?_;rintro e2 w2 ⟨v2,rfl,hv2,hb2⟩;obtain ⟨A2,c2,rfl,Ti,_⟩:=bI.cK hv2;have hb2':Below wr.heap.size wr w2:=HBa.out.trans (hb2.mono HBa.out.size);have b1:=HB1.out.below hb2' HB1.out.lt;have b2:=HB2.out.below hb2' HB2.out.lt;have v2:=own_below HV.out hb2' (Nat.le_refl _);have BB:=HB.out.trans (hb2'.mono HB.out.size);have HRW:=Lib.hid (HH.out.below BB);have c0:=b2.cell 0;have c1:=b2.cell 1;have d0:=b2.frozen 0;have d1:=b2.frozen 1;simp at c0 c1;by_cases hfl:512<l.length+(mq sn (st.m sn)).length
    ·have hr:=HRR.out;rw[KB HHS.out HCP.out hfl] at hr;have dd:decide ((512:Int)<(l.length:Int)+((mq sn (st.m sn)).length:Int))=true:=decide_eq_true (by omega);generalize (mq sn (st.m sn)).length=N at*;have b2':au (w2.setCell ⟨w.heap.size+1,0,none⟩ (.int .i64 (sn:Nat))) (w.heap.size+1) 133 #[.int .i64 (sn:Nat),.slice Av l.length cv]:=by simpa using b2.av 0 (.int .i64 (sn:Nat))
     have b1':=b1.far (p:=⟨w.heap.size+1,0,none⟩) (by simp) (.int .i64 (sn:Nat));have v2':=ownsRow_setCell_other (a:=⟨w.heap.size+1,0,none⟩) v2 (fT v2 b2 (by decide)) (.int .i64 (sn:Nat));have Y4:=BB.setCell (p:=⟨w.heap.size+1,0,none⟩) (by simp) (.int .i64 (sn:Nat));obtain ⟨f1,f2,f3,f4⟩:=Jq (w:=w) b1' v2' Y4 (Nat.le_refl _) (.int .i64 (sn:Nat)) (.slice Av l.length cv);have e0:=b2'.cell 0;have e1:=b2'.cell 1;have e2:=b1'.frozen 0;have e3:=b1'.frozen 1;have e4:=b1'.cell 0;have e5:=b1'.cell 1;simp at e0 e1 e4 e5;have F1:=Lib.hid f1;have F2:=Lib.hid f2;have F3:=Lib.hid f3;have F4:=Lib.hid f4;clear f1 f2 f3 f4 b1 b2 v2 BB b1' b2' v2' Y4 hb2 hb2' hv2 Ti;go_wp2_with fail;have q0:=F4.out.cell 0;have q1:=F4.out.cell 1;simp at q0 q1;refine bodyPost_ret (v:= .tuple #[.agg #[.int .i64 (sn:Nat),.slice Av l.length cv],.int .i64 0]) ?_ rfl ?_
     ·simp[results,Tryz.results81,go_sem,q0,q1]
     ·rw[hr];exact ⟨Av,cv,rfl,F1.out,F2.out,F3.out⟩
    ·have hr:=HRR.out;rw[KC HHS.out HCP.out hfl] at hr;have dd:decide ((512:Int)<(l.length:Int)+((mq sn (st.m sn)).length:Int))=false:=decide_eq_false (by omega);obtain ⟨E,hE⟩:∃E,mq sn (st.m sn)=E:=⟨_,rfl⟩
     rw[hE] at hr dd Ti hfl hel ⊢;have Uz:=Lib.hid hr;have MO:=Lib.hid v2;have HN2:=Lib.hid Ti;have Y5:=Lib.hid b1;have Y6:=Lib.hid b2;have Gd:=Lib.hid BB;clear hr b1 b2 v2 BB hb2 hb2' hv2 Ti HRR HB1 HB2 HV HBa Y3;generalize fD sn=q at*;go_wp2_with (at_builtin;refine fQ _ rfl _ _ 131 rfl w.heap.size 197 i0 (.agg #[.int .i64 0,.bool false,.int .i64 0,.int .i64 0]) 32 rH hi hz0 hz1 hz2 rfl (.slice Av l.length cv) l.length (mG l) rfl MO.out A2 E.length c2 E rfl HN2.out ?c3 ?c4 ?c5 ?_)
     case c3=>unfold maxLen;omega
     case c4=>omega
     case c5=>exact Gd.out.size
     intro v5 w5 hown5 dF;have zf:w5.ownsRow w.heap.size 197 4 v5 (l++E).length (mG (l++E)):=by rw[tF,List.length_append];exact hown5
     have hvb:∀j,(Value.slice Av l.length cv).ownBlock=some j→w.heap.size≤j:=fun j e=>(MO.out.lt j e).1
     have b2:=Y6.out.grown dF (fun e=>fT MO.out Y6.out (by decide) e.symm);have b1:=Y5.out.grown dF (fun e=>fT MO.out Y5.out (by decide) e.symm);have BB:=Gd.out.grown dF Gd.out.size hvb;have hl5:(l++E).length≤512:=by rw[List.length_append];omega
     obtain ⟨A5,c5,rfl,_,_⟩:=bI.cK zf;obtain ⟨NL,hNL⟩:∃NL,(l++E).length=NL:=⟨_,rfl⟩
     rw[hNL] at zf hl5 ⊢;have HNL:=Lib.hid hNL;clear hNL;have d0:=b2.frozen 0;have d1:=b2.frozen 1;have d2:=b2.cell 1;simp at d2;have b2':au (w5.setCell ⟨w.heap.size+1,1,none⟩ (.slice A5 NL c5)) (w.heap.size+1) 133 #[.int .i64 (st.status:Nat),.slice A5 NL c5]:=by simpa using b2.av 1 (.slice A5 NL c5)
     have b1':=b1.far (p:=⟨w.heap.size+1,1,none⟩) (by simp) (.slice A5 NL c5);have v5':=ownsRow_setCell_other (a:=⟨w.heap.size+1,1,none⟩) zf (fT zf b2 (by decide)) (.slice A5 NL c5);have Y4:=BB.setCell (p:=⟨w.heap.size+1,1,none⟩) (by simp) (.slice A5 NL c5);have G1:=Lib.hid b1';have G2:=Lib.hid b2';have G3:=Lib.hid v5';have G4:=Lib.hid Y4;have G5:=Lib.hid hl5;clear b1 b2 BB b1' b2' v5' Y4 hown5 zf dF hvb hl5 c0 c1;go_wp2_with fail
     go_roundg f
     case measure=>omega
     case rel=>exact ⟨q,l++E,_,rfl,HUP.out,Uz.out,by rw[HNL.out];exact G5.out,HGK.out,G1.out,G2.out,by rw[HNL.out];exact G3.out,G4.out⟩
end
end
section
open Go.RowKit Go.Shelf
attribute [local go_sem] Oper.semAt_some
def FB (l:List Nk) (q:Nat):Int:=(l[q]?.getD nk0).sn
def AF (l:List Nk) (N:Nat):Nat→Int × Nat→Int × Nat
 |0,y=>y
 |q+1,y=>if kD (l.take y.2)≤N then y else if 0<q∧FB l q=FB l (q-1) then AF l N q y else AF l N q (FB l q,q)
def FC (aK:Int) (l:List Nk) (N:Nat):Int × Nat:=AF l N l.length (aK,l.length)
theorem KF {l:List Nk} {N q:Nat} {y:Int × Nat} (h:kD (l.take y.2)≤N):AF l N q y=y:=by
 cases q with
 |zero=>rfl
 |succ q=>rw[AF,if_pos h]
section
variable (w:World)
set_option maxRecDepth 10000 in
set_option maxHeartbeats 2000000 in
theorem ND (aK:Int) (A:Option Addr) (n c:Nat) (l:List Nk) (h:bI w A n c l) (hv:cu aK l=false) (N:Int):
 Calls Tryz.prog 82 #[.agg #[.int .i64 aK,.slice A n c],.int .i64 N] w fun e w'=>e= .returned (.tuple #[.agg #[.int .i64 0,.slice none 0 0],.int .i64 2])∧Below w.heap.size w w':=by
 have hB:Below w.heap.size w ((w.alloc (.cells #[.int .i64 aK,.slice A n c] 133)).alloc (.cells #[.int .i64 0,.slice none 0 0] 133)):=((Below.refl _ w).alloc (Nat.le_refl _) _).alloc (by simp) _;have hva:=jL _ aK A n c l ((h.alloc (.cells #[.int .i64 aK,.slice A n c] 133)).alloc (.cells #[.int .i64 0,.slice none 0 0] 133));rw[hv] at hva;have hz:=au.new (w.alloc (.cells #[.int .i64 aK,.slice A n c] 133)) 133 #[.int .i64 0,.slice none 0 0];rw[World.size_alloc] at hz;have HB:=Lib.hid hB;have HV:=Lib.hid hva;have HZ:=Lib.hid hz;clear hB hva hv h hz;go_enter Tryz.func82,Tryz.ntmps82;go_wp2_with fail;refine HV.out.mono ?_;rintro e1 w1 ⟨rfl,hb1⟩;have hz1:=HZ.out.below hb1 HZ.out.lt;have c0:=hz1.cell 0;have c1:=hz1.cell 1;have f0:=hz1.frozen 0;have f1:=hz1.frozen 1;simp at c0 c1;have hB1:=HB.out.trans (hb1.mono HB.out.size);have HB1:=Lib.hid hB1;have HZ1:=Lib.hid hz1;clear hB1 hz1 HZ HV HB hb1;go_wp2_with fail;refine bodyPost_ret (v:= .tuple #[.agg #[.int .i64 0,.slice none 0 0],.int .i64 2]) ?_ rfl ?_
 ·have h1:=(HZ1.out.av 0 (.int .i64 0));have h2:=h1.av 1 (.slice none 0 0);have q0:=h2.cell 0;have q1:=h2.cell 1;simp at q0 q1;simp[results,Tryz.results82,go_sem,q0,q1]
 ·exact ⟨rfl,(HB1.out.setCell (p:=⟨w.heap.size+1,0,none⟩) (by simp) _).setCell (p:=⟨w.heap.size+1,1,none⟩) (by simp) _⟩
theorem FD {l:List Nk} {q:Nat} {x:Nk} (h:l[q]? =some x):FB l q=x.sn:=by unfold FB;rw[h];rfl
set_option maxRecDepth 100000 in
set_option maxHeartbeats 4000000 in
theorem QN (aK:Int) (A:Option Addr) (n c:Nat) (l:List Nk) (h:bI w A n c l) (hv:cu aK l=true) (N:Nat) (hN:2≤N):
 Calls Tryz.prog 82 #[.agg #[.int .i64 aK,.slice A n c],.int .i64 (N:Int)] w fun e w'=>∃A' c',e= .returned (.tuple #[.agg #[.int .i64 (FC aK l N).1,.slice A' (FC aK l N).2 c'],.int .i64 0])∧bI w' A' (FC aK l N).2 c' (l.take (FC aK l N).2)∧(∀ad,A'=some ad→w.heap.size≤ad.block)∧Below w.heap.size w w':=by
 have WY:n≤512:=by
  have hv2:=hv;unfold cu at hv2;simp only[Bool.and_eq_true,decide_eq_true_eq] at hv2;have:=h.len;omega
 obtain ⟨R,hR⟩:∃R,R=FC aK l N:=⟨_,rfl⟩
 rw[←hR];have hB:Below w.heap.size w ((w.alloc (.cells #[.int .i64 aK,.slice A n c] 133)).alloc (.cells #[.int .i64 0,.slice none 0 0] 133)):=((Below.refl _ w).alloc (Nat.le_refl _) _).alloc (by simp) _;have hva:=jL _ aK A n c l ((h.alloc (.cells #[.int .i64 aK,.slice A n c] 133)).alloc (.cells #[.int .i64 0,.slice none 0 0] 133));rw[hv] at hva;have hs:=(au.new w 133 #[.int .i64 aK,.slice A n c]).alloc (.cells #[.int .i64 0,.slice none 0 0] 133);have hz:=au.new (w.alloc (.cells #[.int .i64 aK,.slice A n c] 133)) 133 #[.int .i64 0,.slice none 0 0];rw[World.size_alloc] at hz;have HB:=Lib.hid hB;have HV:=Lib.hid hva;have HS:=Lib.hid hs;have HZ:=Lib.hid hz;have HN:=Lib.hid (h.below hB);have HL:=Lib.hid h.len;have HR:=Lib.hid hR;have adw:=Lib.hid (fun (ad:Addr) (e:A=some ad) (h0:0<n)=>show ad.block<w.heap.size by
  obtain ⟨zC,e',hb',_⟩:=h.at_ h0;rw[e] at e';cases e';exact hb')
 have hcap:=h.cap;have hmx:=h.mx;clear hB hva hv hz hs hR h;go_enter Tryz.func82,Tryz.ntmps82;go_wp2_with fail;refine HV.out.mono ?_;rintro e1 w1 ⟨rfl,hb1⟩;have hz1:=HZ.out.below hb1 HZ.out.lt;have hs1:=HS.out.below hb1 HS.out.lt;have hN1:=HN.out.below hb1;have hB1:=HB.out.trans (hb1.mono HB.out.size);have c0:=hs1.cell 0;have c1:=hs1.cell 1;simp at c0 c1;have HB1:=Lib.hid hB1;have HZ1:=Lib.hid hz1;have AU:=Lib.hid hs1;have HN1:=Lib.hid hN1;clear hB1 hz1 hs1 hN1 HZ HS HV HB HN hb1;have qP:=Lib.hid (fun (W:World) (hW:Below w1.heap.size w1 W)=>vU A n c l W (HN1.out.below hW) (by omega));go_upto_region 5 with (fail)
 go_cut [6] (fun s6 wx=>∃b A' c',s6= .pointer (some ⟨b,0,none⟩)∧au wx b 133 #[.int .i64 aK,.slice A' n c']∧bI wx A' n c' l∧w1.heap.size≤b∧Below w1.heap.size w1 wx∧∀ad,A'=some ad→w1.heap.size≤ad.block∧ad.block≠b)
 case first=>
  have jQ:Tryz.prog.follows .mixedOrders=true:=by kernel_rfl
  refine aY (fun w'=>w'.cell? ⟨w.heap.size,0,none⟩=some (.int .i64 aK)∧w'.cell? ⟨w.heap.size,1,none⟩=some (.slice A n c)) [7] jQ ?_;have hHeld:=(show (fun w':World=>w'.cell? ⟨w.heap.size,0,none⟩=some (.int .i64 aK)∧w'.cell? ⟨w.heap.size,1,none⟩=some (.slice A n c)) w1.drew from ⟨c0,c1⟩);refine aT 0 ?_ rfl (Or.inl ⟨by rfl,?_⟩) hHeld ?_;rotate_left
  ·intro w' hSw;go_simp
   try with_reducible rfl
  try simp only[Act.put,aB,aC,ax,ay,aA]
  refine iK [5,7] 1 ?_ rfl (Or.inl ⟨by rfl,?_⟩) hHeld ?_;rotate_left
  ·intro w' hSw;obtain ⟨hS1,hS2⟩:=hSw;go_simp
   try with_reducible rfl
  try simp only[Act.put,aB,aC,aD,ax,ay,aA]
  refine aT 2 ?_ rfl (Or.inl ⟨by rfl,?_⟩) hHeld ?_;rotate_left
  ·intro w' hSw;go_simp
   try with_reducible rfl
  try simp only[Act.put,aB,aC,aD,ax,ay,aA]
  refine iK [4,5,7] 3 ?_ rfl (Or.inl ⟨by rfl,?_⟩) hHeld ?_;rotate_left
  ·intro w' hSw;obtain ⟨hS1,hS2⟩:=hSw;go_simp
   try with_reducible rfl
  try simp only[Act.put,aB,aC,aD,ax,ay,aA]
  refine yP (i:=4) (k:=6) rfl rfl (by kernel_rfl) (by rfl) (by rfl) (fun K hK=> ?_) (fun K hK=> ?_)
  ·go_simp;refine (qP.out _ (Below.refl _ w1).drew).mono ?_;rintro e w5 ⟨A',c',rfl,k1,k2,k3⟩;have hb6:=AU.out.drew.below k3 AU.out.drew.lt;have q0:=hb6.cell 0;have q1:=hb6.cell 1;simp at q0 q1;refine hK _ _ (show (fun w':World=>w'.cell? ⟨w.heap.size,0,none⟩=some (.int .i64 aK)∧w'.cell? ⟨w.heap.size,1,none⟩=some (.slice A n c)) _ from ⟨q0,q1⟩) ?_;clear hK K hHeld;have hHeld:=(show (fun w':World=>w'.cell? ⟨w.heap.size,0,none⟩=some (.int .i64 aK)∧w'.cell? ⟨w.heap.size,1,none⟩=some (.slice A n c)) _ from ⟨q0,q1⟩)
   try simp only[Act.put,aB,aC,aD,ax,ay,aA]
   refine aT 5 ?_ rfl (Or.inl ⟨by rfl,?_⟩) hHeld ?_;rotate_left
   ·intro w' hSw;go_simp
    try with_reducible rfl
   try simp only[Act.put,aB,aC,aD,ax,ay,aA]
   refine aQ (i:=6) rfl (by kernel_rfl) (by rfl) (fun K hK=> ?_);go_simp;have hb6:=AU.out.drew.below k3 AU.out.drew.lt;have oN:=hb6.alloc (.cells #[.int .i64 0,.slice none 0 0] 133);have q0:=oN.cell 0;have q1:=oN.cell 1;simp at q0 q1;refine hK _ _ (show (fun w':World=>w'.cell? ⟨w.heap.size,0,none⟩=some (.int .i64 aK)∧w'.cell? ⟨w.heap.size,1,none⟩=some (.slice A n c)) _ from ⟨q0,q1⟩) ?_;clear hK K hHeld;have hHeld:=(show (fun w':World=>w'.cell? ⟨w.heap.size,0,none⟩=some (.int .i64 aK)∧w'.cell? ⟨w.heap.size,1,none⟩=some (.slice A n c)) _ from ⟨q0,q1⟩)
   try simp only[Act.put,aB,aC,aD,ax,ay,aA]
   refine bH (i:=7) rfl (by kernel_rfl) (by kernel_rfl) (by rfl) (fun K hK=> ?_);go_simp;refine hK _ _ ?_;clear hK K
   try simp only[Act.put,aB,aC,aD,ax,ay,aA]
   refine aX (by kernel_rfl) ?_ _;have I8:=k3.size;rw[World.size_drew] at I8;have ig:au ((w5.alloc (.cells #[.int .i64 0,.slice none 0 0] 133))) w5.heap.size 133 #[.int .i64 0,.slice none 0 0]:=au.new w5 _ _;go_wp2_with fail;go_meet;exact ⟨w5.heap.size,A',c',rfl,au.new w5 _ _,k1.alloc _,I8,((Below.refl w1.heap.size w1).drew.trans (k3.mono (Nat.le_refl _))).alloc I8 _,fun ad e=>by have:=k2 ad e;rw[World.size_drew] at this;omega⟩
  ·go_simp;have hb6:=AU.out.drew.alloc (.cells #[.int .i64 0,.slice none 0 0] 133);have q0:=hb6.cell 0;have q1:=hb6.cell 1;simp at q0 q1;refine hK _ _ (show (fun w':World=>w'.cell? ⟨w.heap.size,0,none⟩=some (.int .i64 aK)∧w'.cell? ⟨w.heap.size,1,none⟩=some (.slice A n c)) _ from ⟨q0,q1⟩) ?_;clear hK K hHeld;have hHeld:=(show (fun w':World=>w'.cell? ⟨w.heap.size,0,none⟩=some (.int .i64 aK)∧w'.cell? ⟨w.heap.size,1,none⟩=some (.slice A n c)) _ from ⟨q0,q1⟩)
   try simp only[Act.put,aB,aC,aD,ax,ay,aA]
   refine aQ (i:=4) rfl (by kernel_rfl) (by rfl) (fun K hK=> ?_);go_simp;refine (qP.out _ ((Below.refl _ w1).drew.alloc (by simp) _)).mono ?_;rintro e w5 ⟨A',c',rfl,k1,k2,k3⟩;have oN:=hb6.below k3 hb6.lt;have q0:=oN.cell 0;have q1:=oN.cell 1;simp at q0 q1;refine hK _ _ (show (fun w':World=>w'.cell? ⟨w.heap.size,0,none⟩=some (.int .i64 aK)∧w'.cell? ⟨w.heap.size,1,none⟩=some (.slice A n c)) _ from ⟨q0,q1⟩) ?_;clear hK K hHeld;have hHeld:=(show (fun w':World=>w'.cell? ⟨w.heap.size,0,none⟩=some (.int .i64 aK)∧w'.cell? ⟨w.heap.size,1,none⟩=some (.slice A n c)) _ from ⟨q0,q1⟩)
   try simp only[Act.put,aB,aC,aD,ax,ay,aA]
   refine aT 5 ?_ rfl (Or.inl ⟨by rfl,?_⟩) hHeld ?_;rotate_left
   ·intro w' hSw;go_simp
    try with_reducible rfl
   try simp only[Act.put,aB,aC,aD,ax,ay,aA]
   have I8:=k3.size;simp only[World.size_alloc,World.size_drew] at I8;have ig:=(au.new w1.drew 133 #[.int .i64 0,.slice none 0 0]).below k3 (by simp);rw[World.size_drew] at ig;have z0:=ig.cell 0;have z1:=ig.cell 1;have z2:=ig.frozen 0;have z3:=ig.frozen 1;simp at z0 z1;refine bH (i:=7) rfl (by kernel_rfl) (by kernel_rfl) (by rfl) (fun K hK=> ?_);go_simp;refine hK _ _ ?_;clear hK K
   try simp only[Act.put,aB,aC,aD,ax,ay,aA]
   refine aX (by kernel_rfl) ?_ _;go_wp2_with fail;go_meet;exact ⟨w1.heap.size,A',c',rfl,by simpa using (ig.av 0 (.int .i64 aK)).av 1 (.slice A' n c'),(k1.oM (fun ad e=>by have:=(k2 ad e).1;simp at this;omega) _).oM (fun ad e=>by have:=(k2 ad e).1;simp at this;omega) _,Nat.le_refl _,((((Below.refl _ w1).drew.alloc (by simp) _).trans (k3.mono (by simp))).setCell (p:=⟨w1.heap.size,0,none⟩) (Nat.le_refl _) _).setCell (p:=⟨w1.heap.size,1,none⟩) (Nat.le_refl _) _,fun ad e=>by have:=k2 ad e;simp at this;omega⟩
 case rest=>
 obtain ⟨b,A',c',rfl,k1,k2,k3,k4,hAL⟩:=hcut;have aka:=k1.lt;have hS:=AU.out.below k4 AU.out.lt;have hZ:=HZ1.out.below k4 HZ1.out.lt;have hNs:=HN1.out.below k4;have hBc:=HB1.out.trans (k4.mono HB1.out.size);have akb:w.heap.size+1<w1.heap.size:=HZ1.out.lt;have z1:=hS.cell 1;have z2:=k1.cell 1;simp at z1 z2;have hw1:IntKind.i64.wrap ((n:Int)-1)=(n:Int)-1:=IntWalk.i64_in _ (by omega);have HS:=Lib.hid hS;have HZ:=Lib.hid hZ;have HNs:=Lib.hid hNs;have HBc:=Lib.hid hBc;have K1:=Lib.hid k1;have K2:=Lib.hid k2;clear hS hZ hNs hBc k1 k2 k4 AU HZ1 HN1 HB1 c0 c1 qP;have qX:=Lib.hid hAL;clear hAL;have hkk:c'≤9223372036854775807:=K2.out.mx;have hkc:n≤c':=K2.out.cap;go_wp2_with fail
 go_loopw [7] (fun s7 wr=>∃(q:Nat) (y:Int × Nat) (c2:Nat),s7= .int .i64 ((q:Int)-1)∧q≤n∧q≤y.2∧y.2≤n∧y.2≤c2∧c2≤9223372036854775807∧(q=0→y.2=0)∧AF l N q y=R∧au wr b 133 #[.int .i64 y.1,.slice A' y.2 c2]∧au wr w.heap.size 133 #[.int .i64 aK,.slice A n c]∧au wr (w.heap.size+1) 133 #[.int .i64 0,.slice none 0 0]∧bI wr A' n c' l∧bI wr A n c l∧Below w.heap.size w wr) (fun s7 _=>(intOf s7+1).toNat)
 case atStart=>
  refine ⟨n,(aK,n),c',rfl,Nat.le_refl _,Nat.le_refl _,Nat.le_refl _,hkc,hkk,fun e=>e,?_,K1.out,HS.out,HZ.out,K2.out,HNs.out,HBc.out⟩;rw[HR.out,FC,HL.out]
 case round=>
  clear z1 z2 K1 HS HZ K2 HNs HBc;obtain ⟨q,⟨ya,yn⟩,c2,rfl,hq,hqy,hyn,hyc,hc2,hq0,hfit,h1,h2,h3,h4,h5,h6⟩:=hrel;dsimp only at hqy hyn hyc hq0 h1;have z1:=h2.cell 1;have z2:=h1.cell 1;simp at z1 z2;have hsz:=fun W (hW:Below wr.heap.size wr W)=>JO W A' yn c2 (l.take yn) ((h4.takeC hyn hyc hc2).below hW) (by omega)
  have C6:=Lib.hid hsz;have H1:=Lib.hid h1;have H2:=Lib.hid h2;have H3:=Lib.hid h3;have H4:=Lib.hid h4;have H5:=Lib.hid h5;have H6:=Lib.hid h6;clear hsz h1 h2 h3 h4 h5 h6;by_cases hle:kD (l.take yn)≤N
  ·rw[KF (by exact hle)] at hfit;have dd:decide ((N:Int)<(kD (l.take yn):Int))=false:=decide_eq_false (by omega);have KG:=Lib.hid (C6.out wr (Below.refl _ _));generalize kD (l.take yn)=SZ at*;clear C6;go_wp2_with fail;refine KG.out.mono ?_;rintro e1 w2 ⟨rfl,hb2⟩;have g1:=H1.out.below hb2 H1.out.lt;have g3:=H3.out.below hb2 H3.out.lt;have g4:=(H4.out.takeC hyn hyc hc2).below hb2;have g6:=H6.out.trans (hb2.mono H6.out.size);have y0:=g1.cell 0;have y1:=g1.cell 1;have y2:=g3.cell 0;have y3:=g3.cell 1;have y4:=g3.frozen 0;have y5:=g3.frozen 1;simp at y0 y1 y2 y3;have G3:=Lib.hid g3;have G4:=Lib.hid g4;have G6:=Lib.hid g6;have HF:=Lib.hid hfit;clear g1 g3 g4 g6 hb2 KG H1 H2 H3 H4 H5 H6 hfit z1 z2;go_wp2_with fail;refine bodyPost_ret (v:= .tuple #[.agg #[.int .i64 ya,.slice A' yn c2],.int .i64 0]) ?_ rfl ?_
   ·have k1:=(G3.out.av 0 (.int .i64 ya));have k2:=k1.av 1 (.slice A' yn c2);have q0:=k2.cell 0;have q1:=k2.cell 1;simp at q0 q1;simp[results,Tryz.results82,go_sem,q0,q1]
   ·rw[←HF.out];exact ⟨A',c2,rfl,(G4.out.oM (fun ad e=>by have:=qX.out ad e;omega) _).oM (fun ad e=>by have:=qX.out ad e;omega) _,fun ad e=>by have:=qX.out ad e;omega,(G6.out.setCell (p:=⟨w.heap.size+1,0,none⟩) (by simp) _).setCell (p:=⟨w.heap.size+1,1,none⟩) (by simp) _⟩
  ·obtain ⟨p,rfl⟩:∃p,q=p+1:=⟨q-1,by
    rcases Nat.eq_zero_or_pos q with e|e
    ·exfalso;rw[hq0 e] at hle;have:kD (l.take 0)=2:=by simp[kD,oz]
     omega
    ·omega⟩
   rw[show (((p+1:Nat):Int)-1)=(p:Int) by omega];have hln:=HL.out;have dd:(N:Int)<(kD (l.take yn):Int):=by omega
   have KG:=Lib.hid (C6.out wr (Below.refl _ _));have S7:=Lib.hid hle;have hstep:AF l N (p+1) (ya,yn)=if 0<p∧FB l p=FB l (p-1) then AF l N p (ya,yn) else AF l N p (FB l p,p):=by
    rw[AF,if_neg (by exact hle)]
   rw[hstep] at hfit;obtain ⟨SZ,hSZ⟩:∃SZ,kD (l.take yn)=SZ:=⟨_,rfl⟩
   rw[hSZ] at dd KG;clear C6 hstep hle hSZ;go_wp2_with fail;refine KG.out.mono ?_;rintro e1 w2 ⟨rfl,hb2⟩;have g1:=H1.out.below hb2 H1.out.lt;have g2:=H2.out.below hb2 H2.out.lt;have g3:=H3.out.below hb2 H3.out.lt;have g4:=H4.out.below hb2;have g5:=H5.out.below hb2;have g6:=H6.out.trans (hb2.mono H6.out.size);obtain ⟨ad,x,rfl,hx,hbk,x0,x1,x2,x3⟩:=g5.get (k:=p) (by omega);rw[FD hx] at hfit;have G1:=Lib.hid g1;have G2:=Lib.hid g2;have G3:=Lib.hid g3;have G4:=Lib.hid g4;have G5:=Lib.hid g5;have G6:=Lib.hid g6;have Jh:=Lib.hid (fun (zC:Addr) (e:some ad=some zC)=>show zC.block≠b by have:=adw.out zC e (by omega);omega);clear KG H1 H2 H3 H4 H5 H6 hb2 x1 x2 x3 z1 z2;have y2:=g2.cell 1;simp at y2;clear g1 g2 g3 g4 g5 g6;rcases Nat.eq_zero_or_pos p with hp0|hp0
   ·subst hp0;rw[if_neg (by omega)] at hfit;rw[show (((0:Nat):Int))=0 from rfl];go_wp2_with fail
    go_quiet (fail)
    have g1:=G1.out.drewN nq;have g2:=G2.out.drewN nq;have g3:=G3.out.drewN nq;have g4:=G4.out.drewN nq;have g5:=G5.out.drewN nq;have g6:=G6.out.drewN nq;have Nb:(w2.drewN nq).cell? ad=some (.int .i64 x.sn):=by rw[show ad.add (0*4)=ad by cases ad;simp[Addr.add]] at x0;exact x0
    have h0n:0<n:=by omega
    clear x0 y2 G1 G2 G3 G4 G5 G6;have x0:=Nb;clear Nb;generalize w2.drewN nq=w3 at*;have f0:=g1.frozen 0;have f1:=g1.frozen 1;have y0:=g1.cell 0;have y1:=g1.cell 1;have y2:=g2.cell 1;simp at y0 y1 y2;have b1':au ((w3.setCell ⟨b,0,none⟩ (.int .i64 x.sn)).setCell ⟨b,1,none⟩ (.slice A' 0 0)).drew b 133 #[.int .i64 x.sn,.slice A' 0 0]:=by
     have h9:=(g1.av 0 (.int .i64 x.sn)).av 1 (.slice A' 0 0);simp at h9;exact h9.drew
    have b2':=((g2.far (p:=⟨b,0,none⟩) (by simp;omega) (.int .i64 x.sn)).far (p:=⟨b,1,none⟩) (by simp;omega) (.slice A' 0 0)).drew;have Y7:=((g3.far (p:=⟨b,0,none⟩) (by simp;omega) (.int .i64 x.sn)).far (p:=⟨b,1,none⟩) (by simp;omega) (.slice A' 0 0)).drew;have Y8:=((g4.oM (b:=b) (o:=0) (fun ad e=>by have:=qX.out ad e;omega) (.int .i64 x.sn)).oM (b:=b) (o:=1) (fun ad e=>by have:=qX.out ad e;omega) (.slice A' 0 0)).drewN 1;have Y9:=((g5.oM (b:=b) (o:=0) (fun zC e=>Jh.out zC e) (.int .i64 x.sn)).oM (b:=b) (o:=1) (fun zC e=>Jh.out zC e) (.slice A' 0 0)).drewN 1;have Za:=((g6.setCell (p:=⟨b,0,none⟩) (by simp;omega) (.int .i64 x.sn)).setCell (p:=⟨b,1,none⟩) (by simp;omega) (.slice A' 0 0)).drew;have B1:=Lib.hid b1';have B2:=Lib.hid b2';have B3:=Lib.hid Y7;have B4:=Lib.hid Y8;have B5:=Lib.hid Y9;have B6:=Lib.hid Za;have HF:=Lib.hid hfit;clear b1' b2' Y7 Y8 Y9 Za g1 g2 g3 g4 g5 g6 hfit;go_wp2_with fail
    go_region
    go_wp2_with fail
    go_roundw
    case rel=>exact ⟨0,(x.sn,0),0,by simp,by omega,by simp,by simp,by simp,by omega,fun _=>rfl,HF.out,B1.out,B2.out,B3.out,B4.out,B5.out,B6.out⟩
    case measure=>simp[intOf]
   ·obtain ⟨r,hr⟩:∃r,p=r+1:=⟨p-1,by omega⟩
    obtain ⟨ad2,x',e2,hx',adz,xr,_,_,_⟩:=G5.out.get (k:=r) (by omega);cases e2;have hw2:IntKind.i64.wrap ((p:Int)-1)=(r:Int):=by rw[IntWalk.i64_in _ (by omega)];omega
    have hgt:(0:Int)<(p:Int):=by omega
    have hpn:p<n:=by omega
    have hrn:r<n:=by omega
    rw[show p-1=r by omega,FD hx'] at hfit;have DV:=Lib.hid hr;clear hr hx hx' hbk adz;by_cases hsn:x.sn=x'.sn
    ·rw[if_pos ⟨hp0,hsn⟩] at hfit;go_wp2_with fail
     go_quiet (fail)
     have g1:=G1.out.drewN nq;have g2:=G2.out.drewN nq;have g3:=G3.out.drewN nq;have g4:=G4.out.drewN nq;have g5:=G5.out.drewN nq;have g6:=G6.out.drewN nq;have Nb:(w2.drewN nq).cell? (ad.add (p*4))=some (.int .i64 x.sn):=x0;clear x0 xr y2 G1 G2 G3 G4 G5 G6;have x0:=Nb;clear Nb;generalize w2.drewN nq=w3 at*;have B1:=Lib.hid g1;have B2:=Lib.hid g2;have B3:=Lib.hid g3;have B4:=Lib.hid g4;have B5:=Lib.hid g5;have B6:=Lib.hid g6;have HF:=Lib.hid hfit;clear g1 g2 g3 g4 g5 g6 hfit;go_wp2_with fail
     go_roundw
     case rel=>exact ⟨p,(ya,yn),c2,by have:=DV.out;go_num,by omega,by simp;omega,by simp;omega,by simp;omega,by omega,fun e=>by omega,HF.out,B1.out,B2.out,B3.out,B4.out,B5.out,B6.out⟩
     case measure=>have:=DV.out;simp[intOf];omega
    ·rw[if_neg (fun h=>hsn h.2)] at hfit;have dsn:decide (x.sn=x'.sn)=false:=decide_eq_false hsn;go_wp2_with fail
     go_quiet (fail)
     have g1:=G1.out.drewN nq;have g2:=G2.out.drewN nq;have g3:=G3.out.drewN nq;have g4:=G4.out.drewN nq;have g5:=G5.out.drewN nq;have g6:=G6.out.drewN nq;have Nb:(w2.drewN nq).cell? (ad.add (p*4))=some (.int .i64 x.sn):=x0;clear x0 xr y2 G1 G2 G3 G4 G5 G6;have x0:=Nb;clear Nb;generalize w2.drewN nq=w3 at*;have f0:=g1.frozen 0;have f1:=g1.frozen 1;have y0:=g1.cell 0;have y1:=g1.cell 1;have y2:=g2.cell 1;simp at y0 y1 y2;have b1':au ((w3.setCell ⟨b,0,none⟩ (.int .i64 x.sn)).setCell ⟨b,1,none⟩ (.slice A' p p)).drew b 133 #[.int .i64 x.sn,.slice A' p p]:=by
      have h9:=(g1.av 0 (.int .i64 x.sn)).av 1 (.slice A' p p);simp at h9;exact h9.drew
     have b2':=((g2.far (p:=⟨b,0,none⟩) (by simp;omega) (.int .i64 x.sn)).far (p:=⟨b,1,none⟩) (by simp;omega) (.slice A' p p)).drew;have Y7:=((g3.far (p:=⟨b,0,none⟩) (by simp;omega) (.int .i64 x.sn)).far (p:=⟨b,1,none⟩) (by simp;omega) (.slice A' p p)).drew;have Y8:=((g4.oM (b:=b) (o:=0) (fun ad e=>by have:=qX.out ad e;omega) (.int .i64 x.sn)).oM (b:=b) (o:=1) (fun ad e=>by have:=qX.out ad e;omega) (.slice A' p p)).drewN 1;have Y9:=((g5.oM (b:=b) (o:=0) (fun zC e=>Jh.out zC e) (.int .i64 x.sn)).oM (b:=b) (o:=1) (fun zC e=>Jh.out zC e) (.slice A' p p)).drewN 1;have Za:=((g6.setCell (p:=⟨b,0,none⟩) (by simp;omega) (.int .i64 x.sn)).setCell (p:=⟨b,1,none⟩) (by simp;omega) (.slice A' p p)).drew;have B1:=Lib.hid b1';have B2:=Lib.hid b2';have B3:=Lib.hid Y7;have B4:=Lib.hid Y8;have B5:=Lib.hid Y9;have B6:=Lib.hid Za;have HF:=Lib.hid hfit;clear b1' b2' Y7 Y8 Y9 Za g1 g2 g3 g4 g5 g6 hfit;go_wp2_with fail
     go_region
     go_wp2_with fail
     go_roundw
     case rel=>exact ⟨p,(x.sn,p),p,by have:=DV.out;go_num,by omega,by simp,by simp;omega,by simp,by omega,fun e=>by omega,HF.out,B1.out,B2.out,B3.out,B4.out,B5.out,B6.out⟩
     case measure=>have:=DV.out;simp[intOf];omega
end
end
section
open Go.RowKit Go.Shelf
attribute [local go_sem] Oper.semAt_some
structure Wl (c:Cf):Prop where
 r1:0≤c.reorder
 r2:c.reorder≤1048576
 p1:0≤c.gF
 p2:c.gF≤1048576
section
variable {w w':World} {T:Nat→Nat} {g M n:Nat} {c:Cf} {st:Rc} {vo:Value}
theorem dH.clock (ho:dH st) {now:Int} (hn:now≤9223372036854775807):dH (jO st now):=
 ⟨ho.n1,ho.n2,ho.n3,ho.n4,ho.m,ho.op,by have:=ho.t1;unfold jO;dsimp only;split<;>omega,by have:=ho.t2;unfold jO;dsimp only;split<;>omega⟩
theorem dH.waits (ho:dH st) (c:Cf):dH (uS c st):=⟨ho.n1,ho.n2,ho.n3,ho.n3,ho.m,ho.op,ho.t1,ho.t2⟩
theorem dH.fires (ho:dH st) (c:Cf):dH (uT c st):=by
 have h2:dH {st with status:=pO st.m 1024 st.jB,due:=true,ro:=false}:=⟨ho.n1,sU _ _ _ ho.n4,ho.n3,ho.n4,ho.m,ho.op,ho.t1,ho.t2⟩;unfold uT;dsimp only;split
 ·exact h2.waits c
 ·exact h2
theorem dH.goes (ho:dH st) (c:Cf) {now:Int} (hn:now≤9223372036854775807):dH (dP c st now):=by
 unfold dP;split
 ·exact ho.clock hn
 ·exact (ho.clock hn).fires c
set_option maxHeartbeats 1000000 in
theorem vz (h:fV w T g M n c st vo) (ho:dH st) (hcf:Wl c) (now:Int) (hn:now≤9223372036854775807):
 Calls Tryz.prog 80 #[.pointer (some ⟨g,0,none⟩),.int .i64 now] w fun e w'=>e= .returned (.tuple #[])∧fV w' T g M n c (dP c st now) vo∧Kept (MT T) w w':=by
 have ht:∀o:Obj,MT T g o:=fun o=>by unfold MT;rw[h.tg];omega
 have HT:=Lib.hid ht;have HO:=Lib.hid (ho.clock hn);have QO:=Lib.hid hcf;have HG:=Lib.hid (show dP c st now=if st.ro=false∨(jO st now).now<st.exp then jO st now else uT c (jO st now) from rfl);have Ov:=(h.cells).2.2.2.2.2.2.2.2.2.2.2.1;have f16:=h.blk.frozen 16;have HH:=Lib.hid h;clear h ho hcf ht;go_enter Tryz.func80,Tryz.ntmps80;go_upto_region 1 with (fail)
 have h1:=HH.out.put 16 (.int .i64 (if st.now<now then now else st.now)) (st':=jO st now) rfl rfl rfl;have hk1:Kept (MT T) w (w.setCell ⟨g,16,none⟩ (.int .i64 (if st.now<now then now else st.now))):=(Kept.refl _ w).setCell (p:=⟨g,16,none⟩) (fun o _=>HT.out o) _;generalize w.setCell ⟨g,16,none⟩ (.int .i64 (if st.now<now then now else st.now))=wc at*;generalize (if st.now<now then now else st.now)=nv at*;have hro:(jO st now).ro=st.ro:=rfl;have Zb:(jO st now).exp=st.exp:=rfl;rw[←hro,←Zb] at HG;clear hro Zb Ov f16 HH;generalize jO st now=s1 at*;obtain ⟨x3,x4,x7,x8,x9,x10,uG,El,Ot,Bq,PN,Ov,Mq,x18⟩:=h1.cells;have H1:=Lib.hid h1;have HK:=Lib.hid hk1;clear h1 hk1 x4 x7 x8 x9 x10 Bq PN Mq x18;cases hro:s1.ro with
 |false=>
  rw[hro] at uG;have hg:=HG.out;rw[if_pos (.inl hro)] at hg;have Nw:=Lib.hid hg;clear hg hro;go_wp2_with fail
  go_quiet (fail)
  go_wp2_with fail;refine bodyPost_ret (results_none rfl _ _ _) rfl ?_;rw[Nw.out];exact ⟨rfl,H1.out.drewN nq,HK.out.drewN nq⟩
 |true=>
  rw[hro] at uG;by_cases hlt:s1.now<s1.exp
  ·have hg:=HG.out;rw[if_pos (.inr hlt)] at hg;have d1:decide (s1.now<s1.exp)=true:=by simpa using hlt
   have Nw:=Lib.hid hg;clear hg hro;go_wp2_with fail
   go_quiet (fail)
   go_wp2_with fail;refine bodyPost_ret (results_none rfl _ _ _) rfl ?_;rw[Nw.out];exact ⟨rfl,H1.out.drewN nq,HK.out.drewN nq⟩
  ·have hg:=HG.out;rw[if_neg (by rw[hro];simp;omega)] at hg;unfold uT at hg;dsimp only at hg;have d1:decide (s1.now<s1.exp)=false:=by simpa using hlt
   have Nw:=Lib.hid hg;clear hg hro;go_wp2_with fail
   go_quiet (fail)
   have h2:=H1.out.drewN nq;have hk2:=HK.out.drewN nq;generalize wc.drewN nq=w2 at*;have hfr:=Bp h2 HO.out s1.jB HO.out.n4;have Jo:=Lib.hid hfr;have H2:=Lib.hid h2;have xP:=Lib.hid hk2;have hfl:=sU s1.m 1024 s1.jB HO.out.n4;clear hfr h2 hk2 x3 uG Ot Ov H1 HK;generalize pO s1.m 1024 s1.jB=F at*;have El:=H2.out.cells.2.2.2.2.2.2.2.1;go_upto_region 3 with (go_at_call 99;refine Jo.out.mono ?_;rintro e3 w3 ⟨rfl,hb3⟩;have h3:=H2.out.below hb3;have f9:=h3.blk.frozen 9;have c9:=h3.cells.2.2.2.2.1;have lJ:=Lib.hid (xP.out.trans (pR hb3));have H3:=Lib.hid h3;clear h3 hb3)
   have h4:=H3.out.put 9 (.int .i64 (F:Nat)) (st':= {s1 with status:=F}) rfl rfl rfl;have hk4:=lJ.out.setCell (p:=⟨g,9,none⟩) (fun o _=>HT.out o) (.int .i64 (F:Nat));generalize w3.setCell ⟨g,9,none⟩ (.int .i64 (F:Nat))=w4 at*;have f14:=h4.blk.frozen 14;have f11:=h4.blk.frozen 11;have c14:=h4.cells.2.2.2.2.2.2.2.2.2.1;have c11:=h4.cells.2.2.2.2.2.2.1;have h5:=(h4.put 14 (.bool true) (st':= {s1 with status:=F,due:=true}) rfl rfl rfl).put 11 (.bool false) (st':= {s1 with status:=F,due:=true,ro:=false}) rfl rfl rfl;have hk5:=(hk4.setCell (p:=⟨g,14,none⟩) (fun o _=>HT.out o) (.bool true)).setCell (p:=⟨g,11,none⟩) (fun o _=>HT.out o) (.bool false);have H5:=Lib.hid h5;have rW:=Lib.hid hk5;clear h4 hk4 h5 hk5 H3 lJ El f9 c9;go_upto_region 4 with (fail)
   generalize (w4.setCell ⟨g,14,none⟩ (.bool true)).setCell ⟨g,11,none⟩ (.bool false)=w5 at*;obtain ⟨y3,y4,y7,y8,y9,Dm,Nf,uk,y13,Bt,Gg,vS,MG,Da⟩:=H5.out.cells;have DY:dH {s1 with status:=F,due:=true,ro:=false}:=⟨HO.out.n1,hfl,HO.out.n3,HO.out.n4,HO.out.m,HO.out.op,HO.out.t1,HO.out.t2⟩;have Zc:=Lib.hid DY;clear f14 f11 c14 c11 y3 y4 y7 y8 Nf uk y13 Bt Gg vS MG Da DY
   replace y9:w5.cell? ⟨g,9,none⟩=some (.int .i64 (F:Nat)):=y9
   replace Dm:w5.cell? ⟨g,10,none⟩=some (.int .i64 (s1.high:Nat)):=Dm
   by_cases he:s1.high=F
   ·have hgg:=Nw.out;rw[if_neg (by simpa using he)] at hgg;have d2:((s1.high:Int) !=(F:Int))=false:=by simp;omega
    have VR:=Lib.hid hgg;clear hgg he;go_wp2_with fail
    go_quiet (fail)
    go_wp2_with fail
    go_end0
    rw[VR.out];exact ⟨rfl,H5.out.drewN _,rW.out.drewN _⟩
   ·have hgg:=Nw.out;rw[if_pos he] at hgg;have d2:((s1.high:Int) !=(F:Int))=true:=by simp;omega
    have VR:=Lib.hid hgg;clear hgg he;have hwt:=fun q=>yE (H5.out.drewN q) Zc.out QO.out.r1 (by have:=QO.out.r2;omega)
    have HWT:=Lib.hid hwt;clear hwt;go_wp2_with fail
    go_quiet (fail)
    go_wp2_with (go_at_call 101;refine (HWT.out _).mono ?_;rintro e6 w6 ⟨rfl,h6,lG⟩)
    go_end0
    rw[VR.out];exact ⟨rfl,h6,(rW.out.drewN _).trans lG⟩
end
end
section
open Go.RowKit Go.Shelf
attribute [local go_sem] Oper.semAt_some
def FE (R:Nat × List Nk) (N:Nat):Int × List Nk:=
 if cu (R.1:Int) R.2=true then ((FC (R.1:Int) R.2 N).1,R.2.take (FC (R.1:Int) R.2 N).2) else (0,[])
def encR (x:Int × List Nk):List UInt8 × Nat:=if cu x.1 x.2=true then (Bg x.1.toNat x.2,0) else ([],2)
def fu (c:Cf) (st:Rc) (now n:Int):Rc × List UInt8 × Nat:=
 if n<0 then (st,[],2)
 else if (dP c st now).due=false∨(dP c st now).now<(dP c st now).CX∨n<2 then (dP c st now,[],0)
 else ({dP c st now with due:=false,CX:=IntKind.i64.wrap ((dP c st now).now+c.gF)},(encR (FE (sP (dP c st now)) n.toNat)).1,(encR (FE (sP (dP c st now)) n.toNat)).2)
theorem tN (c:Cf) (st:Rc) (now:Int):(dP c st now).m=st.m:=by
 unfold dP;split
 ·rfl
 ·unfold uT;dsimp only;split<;>rfl
section
variable (w:World)
theorem NE (R:Nat × List Nk) (A:Option Addr) (c:Nat) (h:bI w A R.2.length c R.2) (N:Nat) (hN:2≤N):
 Calls Tryz.prog 82 #[.agg #[.int .i64 (R.1:Int),.slice A R.2.length c],.int .i64 (N:Int)] w fun e w'=>∃A' c' er,e= .returned (.tuple #[.agg #[.int .i64 (FE R N).1,.slice A' (FE R N).2.length c'],.int .i64 er])∧bI w' A' (FE R N).2.length c' (FE R N).2∧(∀ad,A'=some ad→w.heap.size≤ad.block)∧Below w.heap.size w w':=by
 unfold FE;cases hv:cu (R.1:Int) R.2 with
 |true=>
  refine (QN w (R.1:Int) A R.2.length c R.2 h hv N hN).mono ?_;rintro e w' ⟨A',c',rfl,h1,h3,h2⟩;have hl:=h1.len;rw[if_pos rfl];dsimp only;rw[hl];exact ⟨A',c',_,rfl,h1,h3,h2⟩
 |false=>
  refine (ND w (R.1:Int) A R.2.length c R.2 h hv N).mono ?_;rintro e w' ⟨rfl,h2⟩;rw[if_neg (by simp)];exact ⟨none,0,_,rfl,⟨rfl,Nat.le_refl _,by omega,fun h0=>by simp at h0⟩,fun ad e=>(by cases e),h2⟩
theorem FF (x:Int × List Nk) (A:Option Addr) (c:Nat) (h:bI w A x.2.length c x.2):
 Calls Tryz.prog 83 #[.agg #[.int .i64 x.1,.slice A x.2.length c]] w (pF w.heap.size 5 w (encR x).1.length (bV (encR x).1) ((encR x).2:Nat)):=by
 unfold encR;cases hv:cu x.1 x.2 with
 |true=>
  obtain ⟨a,l⟩:=x;dsimp only at hv h ⊢;have h0:0≤a:=by
   have h1:=hv;unfold cu at h1;simp only[Bool.and_eq_true,decide_eq_true_eq] at h1;exact h1.1.1
  obtain ⟨a,rfl⟩:=Int.eq_ofNat_of_zero_le h0;rw[if_pos rfl];exact GB w a A l.length c l h hv
 |false=>
  refine (Et w x.1 A x.2.length c x.2 h hv).mono ?_;rintro e w' ⟨rfl,h2⟩;rw[if_neg (by simp)];exact ⟨_,rfl,World.ownsRow_nil _ _ _ _,h2⟩
end
section
variable {w w':World} {T:Nat→Nat} {g M n:Nat} {c:Cf} {st:Rc} {vo:Value}
def adB (w:World) (T:Nat→Nat) (g M n:Nat) (c:Cf) (vo:Value) (R:Rc × List UInt8 × Nat) (e:Ending) (w':World):Prop:=
 ∃v,e= .returned (.tuple #[v,.int .i64 (R.2.2:Nat)])∧w'.ownsRow w.heap.size 5 1 v R.2.1.length (bV R.2.1)∧fV w' T g M n c R.1 vo∧Kept (MT T) w w'
set_option maxRecDepth 100000 in
set_option maxHeartbeats 4000000 in
theorem IB (h:fV w T g M n c st vo) (ho:dH st) (hz:rQ st) (hcf:Wl c) (now:Int) (gQ:now≤9223372036854775807) (N:Int) (hN:N≤9223372036854775807):
 Calls Tryz.prog 54 #[.pointer (some ⟨g,0,none⟩),.int .i64 now,.int .i64 N] w (adB w T g M n c vo (fu c st now N)):=by
 have KE:=Lib.hid (mX h);have qI:=Lib.hid (vz h ho hcf now gQ);have HH:=Lib.hid h;have HO:=Lib.hid (ho.goes c gQ);have HZ:=Lib.hid (show rQ (dP c st now) from fun k p hp=>hz k p (by rw[←tN c st now];exact hp));obtain ⟨R,hR⟩:∃R,fu c st now N=R:=⟨_,rfl⟩
 rw[hR];unfold fu at hR;clear h ho hz;by_cases h0:N<0
 ·rw[if_pos h0] at hR;subst hR;clear HO HZ qI;go_enter Tryz.func54,Tryz.ntmps54;go_wp2_with (go_at_call 79;refine KE.out.mono ?_;rintro e1 w1 ⟨rfl,rfl⟩)
  go_ret2
  exact ⟨_,rfl,World.ownsRow_nil _ _ _ _,HH.out,Kept.refl _ _⟩
 ·rw[if_neg h0] at hR;have d0:decide (N<0)=false:=decide_eq_false h0;clear HH;obtain ⟨s1,hs1⟩:∃s1,dP c st now=s1:=⟨_,rfl⟩
  rw[hs1] at hR qI HO HZ;clear hs1;go_enter Tryz.func54,Tryz.ntmps54;go_wp2_with fail;refine KE.out.mono ?_;rintro e1 w1 ⟨rfl,rfl⟩;clear KE;go_wp2_with fail;refine qI.out.mono ?_;rintro e2 w1 ⟨rfl,oF,hK1⟩;obtain ⟨x3,x4,x7,x8,x9,x10,uG,El,Ot,Bq,PN,Ov,Mq,x18⟩:=oF.cells;clear x3 x7 x8 x9 x10 uG El Ot Mq x18;cases hd:s1.due with
  |false=>
   rw[hd] at Bq;rw[if_pos (.inl hd)] at hR;subst hR;clear HO HZ qI;have HR1:=Lib.hid oF;have vg:=Lib.hid hK1;clear oF hK1;go_wp2_with fail
   go_quiet (fail)
   go_wp2_with fail
   go_ret2
   exact ⟨_,rfl,World.ownsRow_nil _ _ _ _,HR1.out.drewN nq,vg.out.drewN nq⟩
  |true=>
   rw[hd] at Bq;by_cases hlt:s1.now<s1.CX
   ·rw[if_pos (.inr (.inl hlt))] at hR;subst hR;clear HO HZ qI;have HR1:=Lib.hid oF;have vg:=Lib.hid hK1;clear oF hK1;go_wp2_with fail
    go_quiet (fail)
    go_wp2_with fail
    go_ret2
    exact ⟨_,rfl,World.ownsRow_nil _ _ _ _,HR1.out.drewN nq,vg.out.drewN nq⟩
   ·have dlt:decide (s1.now<s1.CX)=false:=decide_eq_false hlt;by_cases h2:N<2
    ·rw[if_pos (.inr (.inr h2))] at hR;subst hR;clear HO HZ qI;have HR1:=Lib.hid oF;have vg:=Lib.hid hK1;clear oF hK1;go_wp2_with fail
     go_quiet (fail)
     go_wp2_with fail
     go_ret2
     exact ⟨_,rfl,World.ownsRow_nil _ _ _ _,HR1.out.drewN nq,vg.out.drewN nq⟩
    ·have d2:decide (N<2)=false:=decide_eq_false h2;rw[if_neg (by rintro (h|h|h);rw[hd] at h;cases h;exact hlt h;exact h2 h)] at hR;obtain ⟨m,rfl⟩:=Int.eq_ofNat_of_zero_le (by omega:0≤N);have HR1:=Lib.hid oF;have vg:=Lib.hid hK1;have HR:=Lib.hid hR;clear oF hK1 hR qI x4;go_wp2_with fail
     go_quiet (fail)
     have hR2:=HR1.out.drewN nq;have hK2:=vg.out.drewN nq;clear HR1 vg Bq PN Ov;generalize w1.drewN nq=w2 at*;have NF:=Lib.hid (Fz hR2 HO.out HZ.out);have HR2:=Lib.hid hR2;have xP:=Lib.hid hK2;clear hR2 hK2;obtain ⟨Q,hQ⟩:∃Q,sP s1=Q:=⟨_,rfl⟩
     rw[hQ] at NF HR;clear hQ;go_wp2_with fail;refine NF.out.mono ?_;rintro e3 w3 ⟨A3,c3,rfl,Rv,_,hb3⟩;have hz3:=hb3.size;have HN3:=Lib.hid (Rv.alloc (.cells #[.int .i64 (Q.1:Nat),.slice A3 Q.2.length c3] 133));have HB3:=Lib.hid (hb3.alloc hb3.size (.cells #[.int .i64 (Q.1:Nat),.slice A3 Q.2.length c3] 133));have zJ:=Lib.hid (au.new w3 133 #[.int .i64 (Q.1:Nat),.slice A3 Q.2.length c3]);clear Rv hb3 NF;go_wp2_with fail;obtain ⟨w4,hw4⟩:∃w4,w3.alloc (.cells #[.int .i64 (Q.1:Nat),.slice A3 Q.2.length c3] 133)=w4:=⟨_,rfl⟩
     obtain ⟨z,hz⟩:∃z,w3.heap.size=z:=⟨_,rfl⟩
     have VH:=Lib.hid (show w2.heap.size≤z by omega);rw[hw4] at HN3 HB3 zJ ⊢;rw[hz] at zJ ⊢;clear hz hw4 hz3;have hzl:=zJ.out.lt;refine (NE w4 Q A3 c3 HN3.out m (by omega)).mono ?_;rintro e4 w5 ⟨A5,c5,er,rfl,hN5,J5,hb5⟩;obtain ⟨X,hX⟩:∃X,FE Q m=X:=⟨_,rfl⟩
     rw[hX] at hN5 ⊢;have h5:=zJ.out.below hb5 zJ.out.lt;have f0:=h5.frozen 0;have f1:=h5.frozen 1;have y0:=h5.cell 0;have y1:=h5.cell 1;simp at y0 y1;have hN6:=(hN5.oM (b:=z) (o:=0) (fun ad e=>by have:=J5 ad e;omega) (.int .i64 X.1)).oM (b:=z) (o:=1) (fun ad e=>by have:=J5 ad e;omega) (.slice A5 X.2.length c5);have h6:au ((w5.setCell ⟨z,0,none⟩ (.int .i64 X.1)).setCell ⟨z,1,none⟩ (.slice A5 X.2.length c5)) z 133 #[.int .i64 X.1,.slice A5 X.2.length c5]:=by simpa using (h5.av 0 (.int .i64 X.1)).av 1 (.slice A5 X.2.length c5)
     have hb6:Below w2.heap.size w2 ((w5.setCell ⟨z,0,none⟩ (.int .i64 X.1)).setCell ⟨z,1,none⟩ (.slice A5 X.2.length c5)):=((HB3.out.trans (hb5.mono HB3.out.size)).setCell (p:=⟨z,0,none⟩) VH.out _).setCell (p:=⟨z,1,none⟩) VH.out _;have Zd:=Lib.hid (FF _ X A5 c5 hN6);have Hy:=Lib.hid hb6;have c0:=h6.cell 0;have c1:=h6.cell 1;simp at c0 c1;have HQ:=Lib.hid hX;clear h5 h6 hN5 hN6 hb5 hb6 J5 hX zJ HB3 HN3 hzl;go_wp2_with fail;refine Zd.out.mono ?_;rintro e7 w7 ⟨v,rfl,hv7,oN⟩;have U3:=Hy.out.trans (oN.mono Hy.out.size);have Gl:=HR2.out.below U3;have L5:=xP.out.trans (pR U3);have QR:=aR (base':=w.heap.size) hv7 (by have:=Hy.out.size;have:=xP.out.size;omega);have Wm:=Lib.hid Gl;have K8:=Lib.hid L5;have HV7:=Lib.hid QR;have f14:=Gl.blk.frozen 14;have f15:=Gl.blk.frozen 15;obtain ⟨x3,x4,x7,x8,x9,x10,uG,El,Ot,Bq,PN,Ov,Mq,x18⟩:=Gl.cells;clear x3 x7 x8 x9 x10 uG El Ot Mq x18 Gl L5 QR hv7 oN U3 Zd Hy HR2 xP c0 c1 f0 f1 y0 y1;go_wp2_with fail
     go_region
     all_goals
      go_wp2_with fail
      go_ret2
      have uQ:=HR.out;rw[Int.toNat_natCast,HQ.out] at uQ;rw[←uQ];rw[show wrap64 (s1.now+c.gF)=IntKind.i64.wrap (s1.now+c.gF) by rw[IntKind.wrap_i64];unfold wrap64;rfl];have p1:=Wm.out.put 14 (.bool false) (st':= {s1 with due:=false}) rfl rfl rfl;have p2:=p1.put 15 (.int .i64 (IntKind.i64.wrap (s1.now+c.gF))) (st':= {s1 with due:=false,CX:=IntKind.i64.wrap (s1.now+c.gF)}) rfl rfl rfl;have v1:=ownsRow_setCell_other (a:=⟨g,14,none⟩) HV7.out (fT HV7.out Wm.out.blk (by decide)) (.bool false);have v2:=ownsRow_setCell_other (a:=⟨g,15,none⟩) v1 (fT v1 p1.blk (by decide)) (.int .i64 (IntKind.i64.wrap (s1.now+c.gF)));have ht:∀o:Obj,MT T g o:=fun o=>by unfold MT;rw[Wm.out.tg];omega
      have k2:=((K8.out.setCell (p:=⟨g,14,none⟩) (fun o _=>ht o) (.bool false)).setCell (p:=⟨g,15,none⟩) (fun o _=>ht o) (.int .i64 (IntKind.i64.wrap (s1.now+c.gF)))).drew;exact ⟨v,rfl,v2.drew',p2.drew,k2⟩
end
end
section
open Go.RowKit Go.Shelf
attribute [local go_sem] Oper.semAt_some
section
variable {w w':World} {T:Nat→Nat} {g M n:Nat} {c:Cf} {st:Rc} {vo:Value}
def tO (T:Nat→Nat) (v:Value):Nat→Nat:=fun k=>if v.ownBlock=some k then 3 else T k
theorem zh (T:Nat→Nat):tO T (.slice none 0 0)=T:=by
 funext k
 simp[tO,Value.ownBlock]
theorem fV.xh (h:fV w T g M n c st vo) {v2:Value} {op2:List UInt8} (hr:w.ownsRow 0 5 1 v2 op2.length (bV op2)) (hf:∀k,v2.ownBlock=some k→T k=0):fV (w.setCell ⟨g,17,none⟩ v2) (tO T v2) g M n c {st with op:=op2} v2:=by
 have hT:∀k,T k≠0→tO T v2 k=T k:=fun k hk=>by
  unfold tO;rw[if_neg (fun e=>hk (hf k e))]
 have hk:∀k,T k≠1→(w.setCell ⟨g,17,none⟩ v2).heap[k]? =w.heap[k]? :=fun k hk=>Below.heap_setCell w ⟨g,17,none⟩ v2 k (fun e=>by have e2:k=g:=e;rw[e2] at hk;exact hk h.tg)
 obtain ⟨F,h1,h2⟩:=h.mp;refine ⟨?_,(hT g (by rw[h.tg];omega)).trans h.tg,(hT M (by rw[h.tM];omega)).trans h.tM,fun k hk=> ?_,?_,fun k e=>by unfold tO;rw[if_pos e],F,h1.same (hk M (by rw[h.tM];omega)),fun k=>⟨(h2 k).1,fun p hp=> ?_⟩⟩
 ·have:=h.blk.av 17 v2;exact this
 ·have e:(w.setCell ⟨g,17,none⟩ v2).heap.size=w.heap.size:=by simp[World.setCell]
  rw[e];unfold tO at hk;split at hk
  ·rename_i e2;exact (hr.lt k e2).2
  ·exact h.lt k hk
 ·exact cO hr fun k e=>hk k (by rw[hf k e];omega)
 ·obtain ⟨b,vf,vd,e,hs,t1,t2,t3⟩:=(h2 k).2 p hp;exact ⟨b,vf,vd,e,hs.stay (hk b (by omega)) (fun j hj=>hk j (by rw[t2 j hj];omega)) (fun j hj=>hk j (by rw[t3 j hj];omega)),(hT b (by omega)).trans t1,fun j hj=>(hT j (by rw[t2 j hj];omega)).trans (t2 j hj),fun j hj=>(hT j (by rw[t3 j hj];omega)).trans (t3 j hj)⟩
theorem fV.Ze {v:Value} (h:fV w (tO T v) g M n c st (.slice none 0 0)) (hl:∀k,T k≠0→k<w.heap.size):fV w T g M n c st (.slice none 0 0):=by
 have hT:∀k,tO T v k≠3→T k=tO T v k:=fun k hk=>by
  unfold tO at hk ⊢;split
  ·rename_i e;rw[if_pos e] at hk;exact absurd rfl hk
  ·rfl
 obtain ⟨F,h1,h2⟩:=h.mp;refine ⟨h.blk,(hT g (by rw[h.tg];omega)).trans h.tg,(hT M (by rw[h.tM];omega)).trans h.tM,hl,h.qU,fun k e=>by simp[Value.ownBlock] at e,F,h1,fun k=>⟨(h2 k).1,fun p hp=> ?_⟩⟩;obtain ⟨b,vf,vd,e,hs,t1,t2,t3⟩:=(h2 k).2 p hp;exact ⟨b,vf,vd,e,hs,(hT b (by omega)).trans t1,fun j hj=>(hT j (by rw[t2 j hj];omega)).trans (t2 j hj),fun j hj=>(hT j (by rw[t3 j hj];omega)).trans (t3 j hj)⟩
def Zf (w:World) (T:Nat→Nat) (g M n:Nat) (c:Cf) (st:Rc) (R:List UInt8 × Bool × List (List UInt8)) (e:Ending) (w':World):Prop:=
 ∃T' zI vr,e= .returned (.tuple #[vr,.bool (!R.2.2.isEmpty)])∧fV w' T' g M n c {st with op:=R.1,sm:=R.2.1} zI∧(∀k,k<w.heap.size→T' k=T k)∧Kept (fun k _=>k=g) w w'∧
  (∀q,R.2.2= [q]→w'.ownsRow w.heap.size 5 1 vr q.length (bV q)∧∀k,vr.ownBlock=some k→T' k=0)
theorem NG {w w':World} {g:Nat} (h:Below w.heap.size w w'):Kept (fun k _=>k=g) w w':=(Kept.of_below h).fA fun k o ho hm=>by have:=lt_of_heap ho;omega
theorem QS (w:World) (A1 A2:Option Addr) (n1 c1 n2 c2:Nat) (l1 l2:List UInt8) (h1:Sl w w.heap.size A1 n1 c1 (bV l1)) (h2:Sl w w.heap.size A2 n2 c2 (bV l2)) (t:TypeId):
 jg (w.alloc (.cells #[.slice A1 n1 c1,.slice A2 n2 c2] t)) (w.alloc (.cells #[.slice A1 n1 c1,.slice A2 n2 c2] t)).heap.size (some ⟨w.heap.size,0,none⟩) 2 2 [.slice A1 n1 c1,.slice A2 n2 c2] [l1,l2]:=by
 have hb:=au.new w t #[.slice A1 n1 c1,.slice A2 n2 c2];have e1:l1.length=n1:=by simpa using h1.len
 have e2:l2.length=n2:=by simpa using h2.len
 refine ⟨⟨rfl,Nat.le_refl _,by omega,fun _=>⟨_,rfl,by simp,fun j u hu=> ?_⟩⟩,rfl,fun i p hi=> ?_⟩
 ·rw[Addr.add_lit,Nat.zero_add];rw[hb.cell j];simpa using hu
 ·have hsz:w.heap.size≤(w.alloc (.cells #[.slice A1 n1 c1,.slice A2 n2 c2] t)).heap.size:=by simp
  match i,hi with
  |0,hi=>
   simp at hi;subst hi;exact ⟨A1,c1,by rw[e1];rfl,by rw[e1];exact (h1.alloc (Nat.le_refl _) _).more hsz⟩
  |1,hi=>
   simp at hi;subst hi;exact ⟨A2,c2,by rw[e2];rfl,by rw[e2];exact (h2.alloc (Nat.le_refl _) _).more hsz⟩
  |i+2,hi=>simp at hi
set_option maxRecDepth 100000 in
set_option maxHeartbeats 4000000 in
theorem KH (h:fV w T g M n c st vo) (ho:dH st) (A:Option Addr) (nb cb:Nat) (bs:List UInt8) (hnb:nb≤100000) (hs:∀W,Kept (fun k _=>k=g) w W→Sl W W.heap.size A nb cb (bV bs)) (begins last:Bool):
 Calls Tryz.prog 157 #[.pointer (some ⟨g,0,none⟩),.slice A nb cb,.bool begins,.bool last] w (Zf w T g M n c st (sN bs begins last st.op st.sm)):=by
 have hlen:bs.length=nb:=by simpa using (hs w (Kept.refl _ w)).len
 have hop:=ho.op;have HS:=Lib.hid hs;have HH:=Lib.hid h;obtain ⟨R,hR⟩:∃R,sN bs begins last st.op st.sm=R:=⟨_,rfl⟩
 rw[hR];obtain ⟨op1,Zg,hop1⟩:∃(op1:List UInt8) (Zg:Bool),(op1,Zg)=if begins=true then (([]:List UInt8),true) else (st.op,st.sm):=⟨_,_,rfl⟩
 have oF:R=if Zg=false then (op1,false,[]) else if (op1++bs).length≤9000∧last=false then (op1++bs,true,[]) else ([],false,if (op1++bs).length≤9000 then [op1++bs] else []):=by
  rw[←hR];unfold sN;cases begins with
  |true=>
   simp only[if_true,Prod.mk.injEq] at hop1;obtain ⟨rfl,rfl⟩:=hop1;rw[if_neg (show ¬(true=false∧st.sm=false) by simp),if_neg (show ¬(true=false) by simp)];dsimp only;rw[if_pos rfl]
  |false=>
   simp only[Bool.false_eq_true,if_false,Prod.mk.injEq] at hop1;obtain ⟨rfl,rfl⟩:=hop1;cases hsm:st.sm with
   |false=>rw[if_pos (by simp),if_pos rfl]
   |true=>
    rw[if_neg (show ¬(false=false∧true=false) by simp),if_neg (show ¬(true=false) by simp)];dsimp only;rw[if_neg (show ¬(false=true) by simp)]
 have hol:op1.length≤9000:=by
  split at hop1
  ·simp only[Prod.mk.injEq] at hop1;rw[hop1.1];simp
  ·simp only[Prod.mk.injEq] at hop1;rw[hop1.1];exact hop
 have Zh:=Lib.hid hop1;have HR1:=Lib.hid oF;clear hs hR h ho hop1 oF;go_enter Tryz.func157,Tryz.ntmps157;go_upto_if 11 with (fail)
 go_cut [] from 12 to 17 (fun wx=>∃v1,fV wx T g M n c {st with op:=op1,sm:=Zg} v1∧Kept (fun k _=>k=g) w wx)
 case first=>
  cases begins with
  |true=>
   have hop1:=Zh.out;simp only[if_true,Prod.mk.injEq] at hop1;obtain ⟨rfl,rfl⟩:=hop1;have c17:=HH.out.cell 17;have c18:=HH.out.cell 18;have f17:=HH.out.blk.frozen 17;have f18:=HH.out.blk.frozen 18;simp[J3] at c17 c18;have h1:=HH.out.xh (v2:= .slice none 0 0) (op2:= []) (World.ownsRow_nil _ _ _ _) (fun k e=>by simp[Value.ownBlock] at e);rw[zh] at h1;have h2:=h1.put 18 (.bool true) (st':= {st with op:= [],sm:=true}) rfl rfl rfl;have H2:=Lib.hid h2;clear h1 h2;go_wp2;go_meet;exact ⟨_,H2.out,((Kept.refl _ w).setCell (p:=⟨g,17,none⟩) (fun _ _=>rfl) _).setCell (p:=⟨g,18,none⟩) (fun _ _=>rfl) _⟩
  |false=>
   have hop1:=Zh.out;simp only[Bool.false_eq_true,if_false,Prod.mk.injEq] at hop1;obtain ⟨rfl,rfl⟩:=hop1;go_wp2;go_meet;exact ⟨vo,HH.out,Kept.refl _ w⟩
 case rest=>
 obtain ⟨v1,h1,hk1⟩:=hcut;have hsb:=HS.out wc hk1;have hkm:Kept (fun k _=>k=g) w wc:=hk1;have HKM:=Lib.hid hkm;have vg:=Lib.hid hk1;have H1:=Lib.hid h1;have c17:=h1.cell 17;have c18:=h1.cell 18;simp[J3] at c17 c18;clear hk1 hkm HS Zh;cases Zg with
 |false=>
  have hr:=HR1.out;rw[if_pos rfl] at hr;have HR:=Lib.hid hr;clear hr HR1 hsb h1;go_wp2
  go_ret2
  rw[HR.out];exact ⟨T,v1,_,rfl,H1.out,fun _ _=>rfl,HKM.out,fun q hq=>by cases hq⟩
 |true=>
  have hr:=HR1.out;rw[if_neg (by simp)] at hr;obtain ⟨A1,c1,rfl,hs1,-⟩:=aZ h1.qU;have U4:=xD (some ⟨wc.heap.size,0,none⟩) 2 2 _ _ _ (QS wc A1 A op1.length c1 nb cb op1 bs hs1 hsb 31) (by simp[ah];omega);have e1: [op1,bs].flatten=op1++bs:=by simp
  have e2:ah [op1,bs]=(op1++bs).length:=by simp[ah]
  rw[e1,e2] at U4;have hcl:(op1++bs).length≤109000:=by rw[List.length_append];omega
  have Zi:=Lib.hid U4;have HR:=Lib.hid hr;clear U4 hr HR1 hsb h1 e1 e2 hs1;generalize op1++bs=o2 at*;go_upto_region 6 with (go_at_call 173;refine Zi.out.mono ?_;rintro e3 w3 ⟨v3,rfl,hv3,hb3⟩;obtain ⟨A3,c3,rfl,hs3,-⟩:=aZ hv3;have hbb:=((Below.refl wc.heap.size wc).alloc (Nat.le_refl _) (.cells #[.slice A1 op1.length c1,.slice A nb cb] 31)).trans (hb3.mono (by simp));have h3:=H1.out.below hbb;have c17:=h3.cell 17;have f17:=h3.blk.frozen 17;simp[J3] at c17)
  have hT0:∀k,T k≠0→k<wc.heap.size:=H1.out.lt
  have U5:∀k,(Value.slice A3 o2.length c3).ownBlock=some k→wc.heap.size≤k:=fun k hk=>by have:=(hv3.lt k hk).1;simp at this;omega
  have hv0:∀k,(Value.slice A3 o2.length c3).ownBlock=some k→T k=0:=fun k hk=>by
   have h9:=U5 k hk;rcases Nat.eq_zero_or_pos (T k) with e|e
   ·exact e
   ·have:=hT0 k (by omega);omega
  have hwz:=HKM.out.size;have hw3:=hbb.size;have Si:=aR hv3 (Nat.zero_le _);have h4:=h3.xh (op2:=o2) Si hv0;have hk4:Kept (fun k _=>k=g) w (w3.setCell ⟨g,17,none⟩ (.slice A3 o2.length c3)):=(HKM.out.trans (NG hbb)).setCell (p:=⟨g,17,none⟩) (fun _ _=>rfl) _;have hv4:(w3.setCell ⟨g,17,none⟩ (.slice A3 o2.length c3)).ownsRow w.heap.size 5 1 (.slice A3 o2.length c3) o2.length (bV o2):=aJ (aR hv3 (by simp;omega)) h3.blk (by decide) _;have htg:∀k,k<w.heap.size→tO T (.slice A3 o2.length c3) k=T k:=fun k hk=>by
   unfold tO;rw[if_neg (fun e=>by have:=U5 k e;omega)]
  have H4:=Lib.hid h4;have zF:=Lib.hid hk4;have Y2:=Lib.hid hv4;have Zj:=Lib.hid htg;have HV0:=Lib.hid hv0;have agz:=hs3.cap;have ake:=hs3.mx;clear h3 hb3 hbb hv3 hT0 U5 Si h4 hk4 hv4 htg hv0 hs3 Zi H1 vg HKM;generalize w3.setCell ⟨g,17,none⟩ (.slice A3 o2.length c3)=w4 at*;have c17:=H4.out.cell 17;have c18:=H4.out.cell 18;have f17:=H4.out.blk.frozen 17;have f18:=H4.out.blk.frozen 18;simp[J3] at c17 c18;by_cases hle:o2.length≤9000
  ·cases last with
   |false=>
    have hr:=HR.out;rw[if_pos ⟨hle,rfl⟩] at hr;have HR2:=Lib.hid hr;clear hr;go_wp2
    go_ret2
    rw[HR2.out];exact ⟨_,_,_,rfl,H4.out,Zj.out,zF.out,fun q hq=>by cases hq⟩
   |true=>
    have hr:=HR.out;rw[if_neg (by simp),if_pos hle] at hr;have HR2:=Lib.hid hr;have d1:decide (o2.length≤9000)=true:=decide_eq_true hle;have h5:=(H4.out.xh (v2:= .slice none 0 0) (op2:= []) (World.ownsRow_nil _ _ _ _) (fun k e=>by simp[Value.ownBlock] at e)).put 18 (.bool false) (st':= {st with op:= [],sm:=false}) rfl rfl rfl;rw[zh] at h5;have hk5:=(zF.out.setCell (p:=⟨g,17,none⟩) (fun _ _=>rfl) (.slice none 0 0)).setCell (p:=⟨g,18,none⟩) (fun _ _=>rfl) (.bool false);have hv5:=aJ (i:=18) (aJ (i:=17) Y2.out H4.out.blk (by decide) (.slice none 0 0)) (H4.out.blk.av 17 (.slice none 0 0)) (by decide) (.bool false);have H5:=Lib.hid h5;have rW:=Lib.hid hk5;have HV5:=Lib.hid hv5;clear h5 hk5 hv5 hr;go_wp2
    go_ret2
    rw[HR2.out];have hl5:=H5.out.Ze (fun k hk=>by
     have h9:=H5.out.lt k;unfold tO at h9;split at h9
     ·exact h9 (by omega)
     ·exact h9 hk)
    exact ⟨T,_,_,rfl,hl5,fun _ _=>rfl,rW.out,fun q hq=>by cases hq;exact ⟨HV5.out,HV0.out⟩⟩
  ·have hr:=HR.out;rw[if_neg (fun e=>hle e.1),if_neg hle] at hr;have HR2:=Lib.hid hr;have d1:decide (o2.length≤9000)=false:=decide_eq_false hle;have h5:=(H4.out.xh (v2:= .slice none 0 0) (op2:= []) (World.ownsRow_nil _ _ _ _) (fun k e=>by simp[Value.ownBlock] at e)).put 18 (.bool false) (st':= {st with op:= [],sm:=false}) rfl rfl rfl;rw[zh] at h5;have hk5:=(zF.out.setCell (p:=⟨g,17,none⟩) (fun _ _=>rfl) (.slice none 0 0)).setCell (p:=⟨g,18,none⟩) (fun _ _=>rfl) (.bool false);have H5:=Lib.hid h5;have rW:=Lib.hid hk5;clear h5 hk5 hr;go_wp2
   go_ret2
   rw[HR2.out];exact ⟨_,_,_,rfl,H5.out,Zj.out,rW.out,fun q hq=>by cases hq⟩
end
end
end Go.Proofs.YtbhiklnljiehiaaGreat
