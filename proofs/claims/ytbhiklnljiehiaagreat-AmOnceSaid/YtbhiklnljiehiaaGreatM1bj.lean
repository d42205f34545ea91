/- amrecv: entries. -/
import Derived.Test.YtbhiklnljiehiaaGreatM1bf
namespace Go.Proofs.YtbhiklnljiehiaaGreat
section
open Go.RowKit Go.Shelf
attribute [local go_sem] Oper.semAt_some
theorem Uw {k:Nat} {l:List Fl} (h:k≤l.length):iP k l=l:=by
 unfold iP;rw[show k-l.length=0 by omega];simp
def IZ (p:Sp):Prop:=∀k,p.size=some k→k≤p.fl.length
theorem EB {sn:Nat} {p:Sp} {k:Nat} (hz:IZ p) (hs:p.size=some k):jw sn (some p)=(dO p.fl 0 0).map (eu sn):=by
 unfold jw;simp only[hs];rw[Uw (hz k hs)]
theorem EC {sn:Nat} {p:Sp} (hs:p.size=none):jw sn (some p)=(dO p.fl 0 0).map (eu sn)++ [⟨sn,true,p.fl.length,32767⟩]:=by
 unfold jw;simp only[hs]
def Yw (w:World) (l:List Nk) (e:Ending) (w':World):Prop:=
 ∃v,e= .returned v∧w'.ownsRow w.heap.size 197 4 v l.length (oM l)∧Below w.heap.size w w'
set_option maxRecDepth 10000 in
set_option maxHeartbeats 2000000 in
theorem Gb (sn:Nat) (w:World):Calls Tryz.prog 118 #[.int .i64 (sn:Nat),.pointer none] w (Yw w (jw sn none)):=by
 have b0:=au.new w 3 #[.int .i64 (sn:Nat)];have hB:=(Below.refl w.heap.size w).alloc (aN) (.cells #[.int .i64 (sn:Nat)] 3);have c0:=b0.cell 0;simp at c0;have HB:=ah hB;clear hB b0;go_enter Tryz.func118,Tryz.ntmps118;go_wp2;go_ret;refine ⟨_,rfl,?_,HB.out.alloc (by simp) _⟩;have hr:=aU (base':=w.heap.size) (World.ownsRow_lit (e:=197) (size:=4) (w.alloc (.cells #[.int .i64 (sn:Nat)] 3)) #[.int .i64 (sn:Nat),.bool false,.int .i64 0,.int .i64 0] 1 (aN) (by unfold maxLen;omega) (by rfl)) (by simp);simpa[jw,oM] using hr
set_option maxRecDepth 100000 in
set_option maxHeartbeats 4000000 in
theorem Gc (sn:Nat) (b:Nat) (p:Sp) (vf vd:Value) (w:World) (h:qw w b p vf vd) (ho:zo p) (hz:IZ p):
 Calls Tryz.prog 118 #[.int .i64 (sn:Nat),.pointer (some ⟨b,0,none⟩)] w (Yw w (jw sn (some p))):=by
 obtain ⟨i0,hi,hz0,hz1,hz2⟩:=rM;obtain ⟨A,c,rfl,hfs⟩:=nH.dH h.fr;obtain ⟨Ad,cd,rfl,_,_⟩:=aS h.dr;have hle:=ho.le;obtain ⟨m,hm⟩:∃m,p.fl.length=m:=⟨_,rfl⟩
 have hcap:=hfs.cap;have hmx:=hfs.mx;have hgl:=pF p.fl 0 0;rw[hm] at hfs hle hcap hgl;have hb:=h.blk;rw[hm] at hb;have hbl:=hb.lt;have z0:=hb.cell 0;have z1:=hb.cell 1;have z2:=hb.cell 2;simp at z0 z1 z2;have hsi:decide ((m:Int)<dA p)=false:=by
  refine decide_eq_false ?_;unfold dA;cases hs:p.size with
  |none=>dsimp only;omega
  |some k=>have:=hz k hs;dsimp only;omega
 have b0:=au.new w 3 #[.int .i64 (sn:Nat)];have b1:=au.new (w.alloc (.cells #[.int .i64 (sn:Nat)] 3)) 165 #[.slice A m c,.slice Ad p.da.length cd,.int .i64 (dA p)];rw[World.size_alloc] at b1;have Zx:=b0.alloc (.cells #[.slice A m c,.slice Ad p.da.length cd,.int .i64 (dA p)] 165);have hB:Below w.heap.size w ((w.alloc (.cells #[.int .i64 (sn:Nat)] 3)).alloc (.cells #[.slice A m c,.slice Ad p.da.length cd,.int .i64 (dA p)] 165)):=((Below.refl _ w).alloc (aN) _).alloc (by simp) _;have acp:=hfs.below hB;have hsz:((w.alloc (.cells #[.int .i64 (sn:Nat)] 3)).alloc (.cells #[.slice A m c,.slice Ad p.da.length cd,.int .i64 (dA p)] 165)).heap.size=w.heap.size+2:=by simp
 have HB:=ah hB;have HFS:=ah acp;have HB0:=ah Zx;have HB1:=ah b1;have FB:=ah hsz;have HM:=ah hm;have HZ:=ah hz;clear hB acp Zx b1 b0 hsz hm hfs hb h ho hz;go_enter Tryz.func118,Tryz.ntmps118;go_wp2_with fail;obtain ⟨w2,hw2⟩:∃w2,(w.alloc (.cells #[.int .i64 (sn:Nat)] 3)).alloc (.cells #[.slice A m c,.slice Ad p.da.length cd,.int .i64 (dA p)] 165)=w2:=⟨_,rfl⟩
 rw[hw2] at HB HFS HB0 HB1 FB ⊢;refine (M4 (w.heap.size+1) w2).mono ?_;rintro e3 w3 ⟨rfl,rfl⟩;have hgv:=au.new w2 161 #[.pointer (some ⟨w.heap.size+1,0,none⟩)];have hb3:=HB1.out.alloc (.cells #[.pointer (some ⟨w.heap.size+1,0,none⟩)] 161);have hs3:=HB0.out.alloc (.cells #[.pointer (some ⟨w.heap.size+1,0,none⟩)] 161);have acs:=BJ w2.heap.size (w.heap.size+1) w.heap.size A m c p.fl sn (w2.alloc (.cells #[.pointer (some ⟨w.heap.size+1,0,none⟩)] 161)) (by omega) hgv (by have:=FB.out;simp;omega) (hb3.cell 0) (HFS.out.below ((Below.refl _ w2).alloc (aN) _)) (hs3.cell 0) (by have:=FB.out;simp;omega);have acu:=ah acs;have HB3:=ah hb3;have CX:=ah hs3;have Ht:=ah (HB.out.alloc HB.out.size (.cells #[.pointer (some ⟨w.heap.size+1,0,none⟩)] 161));clear hgv hb3 hs3 acs hw2 HB HB0 HB1 HFS;go_wp2_with fail;refine acu.out.mono ?_;rintro e4 w4 ⟨v,rfl,hv4,hb4⟩;clear acu;have hB4:=Ht.out.trans (hb4.mono Ht.out.size);have Yx:=HB3.out.below hb4 HB3.out.lt;have hs4:=CX.out.below hb4 CX.out.lt;have c0:=hs4.cell 0;have c1:=Yx.cell 0;have c3:=Yx.cell 2;simp at c0 c1 c3;have QG:=aU (base':=w.heap.size) hv4 Ht.out.size;obtain ⟨Av,cv,rfl,_,_⟩:=bX.dH (l:=(dO p.fl 0 0).map (eu sn)) QG;have HV4:=ah QG;have Dr:=ah hB4;have HS4:=ah hs4;clear hv4 QG hB4 hb4 Yx hs4 HB3 CX;cases hs:p.size with
 |some k=>
  have hdd:dA p=(k:Int):=by unfold dA;rw[hs]
  rw[hdd] at c3;have HE:=ah (EB (sn:=sn) HZ.out hs);clear hdd hs;go_wp2_with fail;go_ret;rw[HE.out];refine ⟨.slice Av (dO p.fl 0 0).length cv,rfl,?_,Dr.out⟩;have h9:=HV4.out;rw[List.length_map] at h9 ⊢;exact h9
 |none=>
  have hdd:dA p= -1:=by unfold dA;rw[hs]
  rw[hdd] at c3;have HE:=ah (EC (sn:=sn) hs);clear hdd hs;obtain ⟨L,hL⟩:∃L,(dO p.fl 0 0).map (eu sn)=L:=⟨_,rfl⟩
  rw[hL] at HV4 HE ⊢;have Zk:L.length≤100001:=by rw[←hL,List.length_map];omega
  clear hL hgl;have HV5:=ah (HV4.out.alloc (.cells (Em ⟨sn,true,m,32767⟩) 197));have hnk:=FJ w4 ⟨sn,true,m,32767⟩;simp only[Em] at HV5 hnk;have XP:=ah hnk;have JA:=ah (Dr.out.alloc Dr.out.size (.cells (Em ⟨sn,true,m,32767⟩) 197));simp only[Em] at JA;clear hnk;go_wp2_with (at_builtin;refine gZ _ rfl _ _ 131 rfl w.heap.size 197 i0 (.agg #[.int .i64 0,.bool false,.int .i64 0,.int .i64 0]) 32 uK hi hz0 hz1 hz2 rfl (.slice Av L.length cv) L.length (oM L) rfl HV5.out (some ⟨w4.heap.size,0,none⟩) 1 1 [⟨sn,true,m,32767⟩] rfl XP.out ?c3 ?c4 ?c5 ?_)
  case c3=>unfold maxLen;omega
  case c4=>omega
  case c5=>have:=Dr.out.size;simp;omega
  intro v' w5 hown5 cB;go_wp2_with fail;go_ret;rw[HE.out,HM.out];refine ⟨v',rfl,?_,JA.out.grown cB JA.out.size (fun j hj=>(HV5.out.lt j hj).1)⟩;rw[wG,List.length_append];exact hown5
end
section
open Go.RowKit Go.Shelf
attribute [local go_sem] Oper.semAt_some
section
variable {D F:Nat→Prop} {g:Nat} {c:Cf} {st:Sd} {vq vo:Value} {vs os:List Value} {w:World}
end
end
section
open Go.RowKit Go.Shelf
attribute [local go_sem] Oper.semAt_some
theorem Nv {st:Rc} {f sn:Nat} {l:List Nk} (h:sn≠st.status) (hc:dB (st.m sn)=true):qm st (f+1) sn l=qm st f (d9 sn) l:=by
 rw[qm,if_neg h,if_pos hc]
theorem Nw {st:Rc} {f sn:Nat} {l:List Nk} (h:sn≠st.status) (hc:dB (st.m sn)=false) (hl:512<l.length+(jw sn (st.m sn)).length):qm st (f+1) sn l=(sn,l):=by
 rw[qm,if_neg h,if_neg (by rw[hc];simp),if_pos hl]
theorem Ny {st:Rc} {f sn:Nat} {l:List Nk} (h:sn≠st.status) (hc:dB (st.m sn)=false) (hl:¬512<l.length+(jw sn (st.m sn)).length):qm st (f+1) sn l=qm st f (d9 sn) (l++jw sn (st.m sn)):=by
 rw[qm,if_neg h,if_neg (by rw[hc];simp),if_neg hl]
theorem QH {sn:Nat} {o:Option Sp} (h:∀p,o=some p→zo p∧IZ p):(jw sn o).length≤40000:=by
 cases o with
 |none=>simp[jw]
 |some p=>
  obtain ⟨h1,h2⟩:=h p rfl;have:=pF p.fl 0 0;have:=h1.le;cases hs:p.size with
  |none=>rw[EC hs];simp;omega
  |some k=>rw[EB h2 hs];simp;omega
def ahc (w:World) (R:Nat × List Nk) (e:Ending) (w':World):Prop:=
 ∃A c,e= .returned (.tuple #[.agg #[.int .i64 (R.1:Nat),.slice A R.2.length c],.int .i64 0])∧bX w' A R.2.length c R.2∧(∀ad,A=some ad→w.heap.size≤ad.block)∧Below w.heap.size w w'
def vk (st:Rc):Prop:=∀k p,st.m k=some p→IZ p
section
variable {w w':World} {T:Nat→Nat} {g M n:Nat} {c:Cf} {st:Rc} {vo:Value}
theorem iC.entry (h:iC w T g M n c st vo) (ho:eF st) (hz:vk st) {k:Nat} (hk:k≤1023):∃v,(Instr.lookup 128 (.map (some M)) (.int .i64 k) false).run Tryz.prog w= .ok v w∧
 Calls Tryz.prog 117 #[v] w (fun e w'=>e= .returned (.bool (dB (st.m k)))∧Below w.heap.size w w')∧
 ∀W,Below w.heap.size w W→Calls Tryz.prog 118 #[.int .i64 (k:Nat),v] W (Yw W (jw k (st.m k))):=by
 obtain ⟨v,hr,⟨hm,rfl⟩|⟨p,b,vf,vd,hm,rfl,hs,_⟩⟩:=h.look hk
 ·refine ⟨_,hr,?_,?_⟩
  ·rw[hm];exact uF w
  ·intro W _;rw[hm];exact Gb k W
 ·refine ⟨_,hr,?_,?_⟩
  ·rw[hm];exact uG hs (ho.m k p hm).2.2
  ·intro W hW;rw[hm];have hbl:=hs.blk.lt;refine Gc k b p vf vd W (hs.stay (hW.block b hbl) (fun j hj=>hW.block j (hs.fr.lt j hj).2) (fun j hj=>hW.block j (hs.dr.lt j hj).2)) (ho.m k p hm).2.2 (hz k p hm)
theorem Nz {st:Rc} {f sn:Nat} {l:List Nk} (h:sn=st.status):qm st f sn l=(st.status,l):=by
 cases f with
 |zero=>rfl
 |succ f=>rw[qm,if_pos h]
theorem Md {wr:World} {b:Nat} {x y:Value} {A:Option Addr} {c:Nat} {l:List Nk} (hb1:au wr b 133 #[x,y]) (hv:wr.ownsRow w.heap.size 197 4 (.slice A l.length c) l.length (oM l)) (hB:Below w.heap.size w wr) (hbl:w.heap.size≤b) (u0 u1:Value):
 bX ((wr.setCell ⟨b,0,none⟩ u0).setCell ⟨b,1,none⟩ u1) A l.length c l∧(∀ad,A=some ad→w.heap.size≤ad.block)∧Below w.heap.size w ((wr.setCell ⟨b,0,none⟩ u0).setCell ⟨b,1,none⟩ u1)∧au ((wr.setCell ⟨b,0,none⟩ u0).setCell ⟨b,1,none⟩ u1) b 133 #[u0,u1]:=by
 have h1:au (wr.setCell ⟨b,0,none⟩ u0) b 133 #[u0,y]:=by simpa using hb1.av 0 u0
 have h2:au ((wr.setCell ⟨b,0,none⟩ u0).setCell ⟨b,1,none⟩ u1) b 133 #[u0,u1]:=by simpa using h1.av 1 u1
 have v1:=ownsRow_setCell_other (a:=⟨b,0,none⟩) hv (ig hv hb1 (by decide)) u0;have v2:=ownsRow_setCell_other (a:=⟨b,1,none⟩) v1 (ig v1 h1 (by decide)) u1;obtain ⟨A',c',e,hN,hf⟩:=bX.dH v2;cases e;exact ⟨hN,fun ad e=>(hf ad e).1,(hB.setCell (p:=⟨b,0,none⟩) hbl u0).setCell (p:=⟨b,1,none⟩) hbl u1,h2⟩
set_option maxRecDepth 100000 in
set_option maxHeartbeats 4000000 in
theorem I1 (h:iC w T g M n c st vo) (ho:eF st) (hz:vk st):
 Calls Tryz.prog 81 #[.pointer (some ⟨g,0,none⟩)] w (ahc w (lm st)):=by
 obtain ⟨i0,hi,hz0,hz1,hz2⟩:=rM;obtain ⟨R,hR⟩:∃R,R=lm st:=⟨_,rfl⟩
 rw[←hR];have hB0:=(Below.refl w.heap.size w).alloc (aN) (.cells #[.int .i64 0,.slice none 0 0] 133);have hb0:=au.new w 133 #[.int .i64 0,.slice none 0 0];have hsz0:=World.size_alloc w (.cells #[.int .i64 0,.slice none 0 0] 133);have hno:=o9 (h.alloc (.cells #[.int .i64 0,.slice none 0 0] 133));have NA:=ah hno;have HH:=ah h;have HO:=ah ho;have HZ:=ah hz;have HR:=ah hR;have hgl:=h.blk.lt;obtain ⟨y3,y4,y7,y8,y9,FU,Qo,xh,y13,Ej,JB,yP,PS,FE⟩:=h.cells;have hn1:=ho.n1;have hn2:=ho.n2;clear y3 y4 FU Qo xh y13 Ej JB yP PS FE hno h ho hz hR hb0 hsz0 hB0;go_enter Tryz.func81,Tryz.ntmps81;go_wp2_with fail;refine NA.out.mono ?_;rintro e1 w1 ⟨rfl,rfl⟩;go_wp2_with fail;have hb1:=(au.new w 133 #[.int .i64 0,.slice none 0 0]).alloc (.cells #[.int .i64 (st.status:Nat),.slice none 0 0] 133);have hb2:=au.new (w.alloc (.cells #[.int .i64 0,.slice none 0 0] 133)) 133 #[.int .i64 (st.status:Nat),.slice none 0 0];rw[World.size_alloc] at hb2;have Ti:Below w.heap.size w ((w.alloc (.cells #[.int .i64 0,.slice none 0 0] 133)).alloc (.cells #[.int .i64 (st.status:Nat),.slice none 0 0] 133)):=((Below.refl _ w).alloc (aN) _).alloc (by simp) _;have NB:(st.status+1024-st.next)%1024≤1024:=by omega
 go_loopg [5] 1024 (fun gk s5 wr=>∃(sn:Nat) (l:List Nk) (v:Value),s5= .int .i64 (sn:Nat)∧sn≤1023∧R=qm st gk sn l∧l.length≤512∧(st.status+1024-sn)%1024≤gk∧au wr w.heap.size 133 #[.int .i64 0,.slice none 0 0]∧
  au wr (w.heap.size+1) 133 #[.int .i64 (st.status:Nat),v]∧wr.ownsRow w.heap.size 197 4 v l.length (oM l)∧Below w.heap.size w wr)
 case atStart=>exact ⟨st.next,[],_,rfl,hn1,HR.out,by simp,NB,hb1,hb2,World.ownsRow_nil _ _ _ _,Ti⟩
 case round=>
  clear hb1 hb2 Ti NB y7 y8 y9;obtain ⟨sn,l,v,rfl,hsn,hr,hl,NB,hb1,hb2,hv,hB⟩:=hrel;obtain ⟨Av,cv,rfl,hNv,iN⟩:=bX.dH hv;have hA:=HH.out.below hB;have x9:=hA.cells.2.2.2.2.1;have x7:=hA.cells.2.2.1;by_cases hs:sn=st.status
  ·subst hs;rw[Nz rfl] at hr;have c0:=hb2.cell 0;have c1:=hb2.cell 1;have d0:=hb1.frozen 0;have d1:=hb1.frozen 1;have d2:=hb1.cell 0;have d3:=hb1.cell 1;simp at c0 c1 d2 d3;obtain ⟨f1,f2,f3,f4⟩:=Md (w:=w) hb1 hv hB (aN) (.int .i64 (st.status:Nat)) (.slice Av l.length cv);have F1:=ah f1;have F2:=ah f2;have F3:=ah f3;have F4:=ah f4;clear f1 f2 f3 f4 hb1 hb2 hv hB hA hNv iN x7;go_wp2_with fail;have q0:=F4.out.cell 0;have q1:=F4.out.cell 1;simp at q0 q1;refine bodyPost_ret (v:= .tuple #[.agg #[.int .i64 (st.status:Nat),.slice Av l.length cv],.int .i64 0]) ?_ rfl ?_
   ·simp[results,Tryz.results81,go_sem,q0,q1]
   ·rw[hr];exact ⟨Av,cv,rfl,F1.out,F2.out,F3.out⟩
  ·obtain ⟨f,rfl⟩:∃f,gk=f+1:=⟨gk-1,by omega⟩
   have hne:¬((sn:Int)=(st.status:Int)):=by omega
   have Yy:(st.status+1024-d9 sn)%1024≤f:=by unfold d9;omega
   have hup:d9 sn≤1023:=by unfold d9;omega
   have hand:bits BinOp.and IntKind.i64 ((sn:Int)+1) 1023=((d9 sn:Nat):Int):=by rw[rF];unfold d9;omega
   obtain ⟨v,hlk,hcm,hent⟩:=hA.entry HO.out HZ.out hsn;have hel:(jw sn (st.m sn)).length≤40000:=QH fun p hp=>⟨(HO.out.m sn p hp).2.2,HZ.out sn p hp⟩
   have HCM:=ah hcm;have HB:=ah hB;have HUP:=ah hup;have HGK:=ah Yy;cases hcp:dB (st.m sn) with
   |true=>
    rw[hcp] at HCM;rw[Nv hs hcp] at hr;have HRR:=ah hr;have HV:=ah hv;have HB1:=ah hb1;have HB2:=ah hb2;clear hcm hent hr NB Yy hup hcp hB hA hv hb1 hb2 hel hNv iN;generalize d9 sn=q at*;go_wp2_with fail;refine HCM.out.mono ?_;rintro e1 w1 ⟨rfl,hb1⟩;go_wp2
    go_roundg f
    case measure=>omega
    case rel=>exact ⟨q,l,_,rfl,HUP.out,HRR.out,hl,HGK.out,HB1.out.below hb1 HB1.out.lt,HB2.out.below hb1 HB2.out.lt,own_below HV.out hb1 (aN),HB.out.trans (hb1.mono HB.out.size)⟩
   |false=>
    rw[hcp] at HCM;have acw:=ah hent;clear hcm hent;have HV:=ah hv;have HB1:=ah hb1;have HB2:=ah hb2;have HHS:=ah hs;have HCP:=ah hcp;have HRR:=ah hr;clear hv hb1 hb2 hs hcp hr hB hA hNv iN NB Yy hup;go_wp2_with fail;refine HCM.out.mono ?_;rintro e1 w1 ⟨rfl,hb1⟩;have HBa:=ah hb1;clear hb1 HCM;go_wp2_with fail;refine (acw.out w1 HBa.out).mono ?_;rintro e2 w2 ⟨v2,rfl,hv2,hb2⟩;obtain ⟨A2,c2,rfl,Tk,_⟩:=bX.dH hv2;have hb2':Below wr.heap.size wr w2:=HBa.out.trans (hb2.mono HBa.out.size);have b1:=HB1.out.below hb2' HB1.out.lt;have b2:=HB2.out.below hb2' HB2.out.lt;have v2:=own_below HV.out hb2' (aN);have BB:=HB.out.trans (hb2'.mono HB.out.size);have HRW:=ah (HH.out.below BB);have c0:=b2.cell 0;have c1:=b2.cell 1;have d0:=b2.frozen 0;have d1:=b2.frozen 1;simp at c0 c1;by_cases hfl:512<l.length+(jw sn (st.m sn)).length
    ·have hr:=HRR.out;rw[Nw HHS.out HCP.out hfl] at hr;have dd:decide ((512:Int)<(l.length:Int)+((jw sn (st.m sn)).length:Int))=true:=decide_eq_true (by omega);generalize (jw sn (st.m sn)).length=N at*;have b2':au (w2.setCell ⟨w.heap.size+1,0,none⟩ (.int .i64 (sn:Nat))) (w.heap.size+1) 133 #[.int .i64 (sn:Nat),.slice Av l.length cv]:=by simpa using b2.av 0 (.int .i64 (sn:Nat))
     have b1':=b1.far (p:=⟨w.heap.size+1,0,none⟩) (by simp) (.int .i64 (sn:Nat));have v2':=ownsRow_setCell_other (a:=⟨w.heap.size+1,0,none⟩) v2 (ig v2 b2 (by decide)) (.int .i64 (sn:Nat));have BB':=BB.setCell (p:=⟨w.heap.size+1,0,none⟩) (by simp) (.int .i64 (sn:Nat));obtain ⟨f1,f2,f3,f4⟩:=Md (w:=w) b1' v2' BB' (aN) (.int .i64 (sn:Nat)) (.slice Av l.length cv);have e0:=b2'.cell 0;have e1:=b2'.cell 1;have e2:=b1'.frozen 0;have e3:=b1'.frozen 1;have e4:=b1'.cell 0;have e5:=b1'.cell 1;simp at e0 e1 e4 e5;have F1:=ah f1;have F2:=ah f2;have F3:=ah f3;have F4:=ah f4;clear f1 f2 f3 f4 b1 b2 v2 BB b1' b2' v2' BB' hb2 hb2' hv2 Tk;go_wp2_with fail;have q0:=F4.out.cell 0;have q1:=F4.out.cell 1;simp at q0 q1;refine bodyPost_ret (v:= .tuple #[.agg #[.int .i64 (sn:Nat),.slice Av l.length cv],.int .i64 0]) ?_ rfl ?_
     ·simp[results,Tryz.results81,go_sem,q0,q1]
     ·rw[hr];exact ⟨Av,cv,rfl,F1.out,F2.out,F3.out⟩
    ·have hr:=HRR.out;rw[Ny HHS.out HCP.out hfl] at hr;have dd:decide ((512:Int)<(l.length:Int)+((jw sn (st.m sn)).length:Int))=false:=decide_eq_false (by omega);obtain ⟨E,hE⟩:∃E,jw sn (st.m sn)=E:=⟨_,rfl⟩
     rw[hE] at hr dd Tk hfl hel ⊢;have X6:=ah hr;have PY:=ah v2;have HN2:=ah Tk;have acz:=ah b1;have acA:=ah b2;have Jz:=ah BB;clear hr b1 b2 v2 BB hb2 hb2' hv2 Tk HRR HB1 HB2 HV HBa acw;generalize d9 sn=q at*;go_wp2_with (at_builtin;refine gZ _ rfl _ _ 131 rfl w.heap.size 197 i0 (.agg #[.int .i64 0,.bool false,.int .i64 0,.int .i64 0]) 32 uK hi hz0 hz1 hz2 rfl (.slice Av l.length cv) l.length (oM l) rfl PY.out A2 E.length c2 E rfl HN2.out ?c3 ?c4 ?c5 ?_)
     case c3=>unfold maxLen;omega
     case c4=>omega
     case c5=>exact Jz.out.size
     intro v5 w5 hown5 cB;have Cg:w5.ownsRow w.heap.size 197 4 v5 (l++E).length (oM (l++E)):=by rw[wG,List.length_append];exact hown5
     have hvb:∀j,(Value.slice Av l.length cv).ownBlock=some j→w.heap.size≤j:=fun j e=>(PY.out.lt j e).1
     have b2:=acA.out.grown cB (fun e=>ig PY.out acA.out (by decide) e.symm);have b1:=acz.out.grown cB (fun e=>ig PY.out acz.out (by decide) e.symm);have BB:=Jz.out.grown cB Jz.out.size hvb;have hl5:(l++E).length≤512:=by rw[List.length_append];omega
     obtain ⟨A5,c5,rfl,_,_⟩:=bX.dH Cg;obtain ⟨NL,hNL⟩:∃NL,(l++E).length=NL:=⟨_,rfl⟩
     rw[hNL] at Cg hl5 ⊢;have HNL:=ah hNL;clear hNL;have d0:=b2.frozen 0;have d1:=b2.frozen 1;have d2:=b2.cell 1;simp at d2;have b2':au (w5.setCell ⟨w.heap.size+1,1,none⟩ (.slice A5 NL c5)) (w.heap.size+1) 133 #[.int .i64 (st.status:Nat),.slice A5 NL c5]:=by simpa using b2.av 1 (.slice A5 NL c5)
     have b1':=b1.far (p:=⟨w.heap.size+1,1,none⟩) (by simp) (.slice A5 NL c5);have v5':=ownsRow_setCell_other (a:=⟨w.heap.size+1,1,none⟩) Cg (ig Cg b2 (by decide)) (.slice A5 NL c5);have BB':=BB.setCell (p:=⟨w.heap.size+1,1,none⟩) (by simp) (.slice A5 NL c5);have G1:=ah b1';have G2:=ah b2';have G3:=ah v5';have G4:=ah BB';have G5:=ah hl5;clear b1 b2 BB b1' b2' v5' BB' hown5 Cg cB hvb hl5 c0 c1;go_wp2_with fail
     go_roundg f
     case measure=>omega
     case rel=>exact ⟨q,l++E,_,rfl,HUP.out,X6.out,by rw[HNL.out];exact G5.out,HGK.out,G1.out,G2.out,by rw[HNL.out];exact G3.out,G4.out⟩
end
end
section
structure Cq (aO:List (List UInt8)) (N:Nat) (pu:Nat→Ou) (left:Nat→List (List UInt8)) (sent:Nat→Nat):Prop where
 n:N≤511
 l0:left 0=aO
 s0:sent 0=0
 sn:∀i,i<N→(pu i).sn=i
 s:∀i,i<N→(pu i).s=decide (sent i=0)
 ne:∀i,i<N→(pu i).ps≠ []
 each:∀i,i<N→∀q∈(pu i).ps,1≤q.length∧q.length≤1000
 tot:∀i,i<N→aC (pu i)≤32767
 len:∀s∈aO,s.length≤1000
 step:∀i,i<N→∃g,left i=g++left (i+1)∧lF (((left i).headD []).take (sent i)) (decide (0<sent i)) (pu i).ps (pu i).e=(g,((left (i+1)).headD []).take (sent (i+1)),decide (0<sent (i+1)))
def yo (x:Ou):List (Fl × UInt8):=dN x.s x.e x.ps.length 0 x.ps
theorem rX (x:Ou):(yo x).length=aC x:=mY _ _ _ _ _
def oJ (aO:List (List UInt8)) (left:Nat→List (List UInt8)) (i:Nat):List (List UInt8):=aO.take (aO.length-(left i).length)
structure Piece (x:Ou) (a:jv):Prop where
 sn:a.sn=x.sn
 pos:1≤aj a.ps
 le:jV a≤aC x
 fin:xK a=true↔jV a=aC x
 eq:∀(j:Nat) z,(dN a.s a.e a.ps.length 0 a.ps)[j]? =some z→(yo x)[a.off+j]? =some z
section
variable {aO:List (List UInt8)} {N:Nat} {pu:Nat→Ou} {left:Nat→List (List UInt8)} {sent:Nat→Nat}
theorem Cr {ps:List (List UInt8)} (h:ps≠ []) (h1:∀q∈ps,1≤q.length):1≤aj ps:=by
 cases ps with
 |nil=>exact absurd rfl h
 |cons p r=>
  have:=h1 p (by simp);simp[aj];omega
theorem Cq.size_pos (h:Cq aO N pu left sent) {i:Nat} (hi:i<N):1≤aC (pu i):=Cr (h.ne i hi) fun q hq=>(h.each i hi q hq).1
theorem Cq.suffix (h:Cq aO N pu left sent):∀i,i≤N→∃d,aO=d++left i
 |0,_=>⟨[],by rw[h.l0];rfl⟩
 |i+1,hi=>by
  obtain ⟨d,hd⟩:=Cq.suffix h i (by omega);obtain ⟨g,hg,_⟩:=h.step i (by omega);exact ⟨d++g,by rw[hd,hg,List.append_assoc]⟩
theorem Cq.done (h:Cq aO N pu left sent) {i:Nat} (hi:i≤N):aO=oJ aO left i++left i:=by
 obtain ⟨d,hd⟩:=h.suffix i hi;unfold oJ;rw[hd];simp
theorem Cq.QY (h:Cq aO N pu left sent) {i:Nat} (hi:i<N):∃g,oJ aO left (i+1)=oJ aO left i++g∧lF (((left i).headD []).take (sent i)) (decide (0<sent i)) (pu i).ps (pu i).e=(g,((left (i+1)).headD []).take (sent (i+1)),decide (0<sent (i+1))):=by
 obtain ⟨g,hg,hj⟩:=h.step i hi;refine ⟨g,?_,hj⟩;have h1:=h.done (i:=i) (by omega);have h2:=h.done (i:=i+1) (by omega);have h3:oJ aO left (i+1)++left (i+1)=oJ aO left i++g++left (i+1):=by
  rw[←h2,List.append_assoc,←hg];exact h1
 exact List.append_cancel_right h3
theorem Cq.QZ (h:Cq aO N pu left sent) {i:Nat} (hi:i≤N) (k:Nat):(((left i).headD []).take k).length≤1000:=by
 obtain ⟨d,hd⟩:=h.suffix i hi;rw[List.length_take];cases hl:left i with
 |nil=>simp
 |cons x r=>
  have:=h.len x (by rw[hd,hl];simp);simp only[List.headD_cons];omega
def yV (left:Nat→List (List UInt8)) (sent:Nat→Nat) (i:Nat) (op:List UInt8) (sm:Bool):Prop:=
 sm=decide (0<sent i)∧(sm=true→op=((left i).headD []).take (sent i))
theorem Cq.dlv (h:Cq aO N pu left sent) {i:Nat} (hi:i<N) {op:List UInt8} {sm:Bool} (ho:yV left sent i op sm) {fl:List Fl} {da:List UInt8} (hf:fl=(yo (pu i)).map Prod.fst) (hd:da=(yo (pu i)).map Prod.snd):
 ∃g,oJ aO left (i+1)=oJ aO left i++g∧(oG fl da (aC (pu i)) (aC (pu i)) 1 0 op sm).2.2=g∧
  yV left sent (i+1) (oG fl da (aC (pu i)) (aC (pu i)) 1 0 op sm).1 (oG fl da (aC (pu i)) (aC (pu i)) 1 0 op sm).2.1:=by
 obtain ⟨g,hg,hj⟩:=h.QY hi;have VZ:=H8 (pu i).s (pu i).e (pu i).ps.length fl da (aC (pu i)) (pu i).ps 0 0 op sm (fun p hp=>(h.each i hi p hp).1) (by omega) (by unfold aC;omega)
  (fun j=>by rw[hf,List.getElem?_map,Nat.zero_add];rfl) (by rw[hd,List.drop_zero];exact Br _ _ _ _ _)
 rw[Nat.sub_zero,Nat.zero_add] at VZ;rw[VZ];obtain ⟨o1,o2⟩:=ho;have hjn:=Ee (pu i).s (pu i).e (pu i).ps.length (pu i).ps 0 op (((left i).headD []).take (sent i)) sm (decide (0<sent i)) (h.ne i hi) (by omega)
  (fun p hp=>by have:=(h.each i hi p hp).2;have:=h.QZ (Nat.le_of_lt hi) (sent i);omega)
  (by
   rw[h.s i hi];by_cases hz:sent i=0
   ·refine .inl ⟨by simp[hz],by rw[hz];rfl⟩
   ·have hsm:sm=true:=by rw[o1];simp;omega
    exact .inr ⟨by simp[hz],hsm,o2 hsm⟩)
 rw[hjn,hj];exact ⟨g,hg,rfl,rfl,fun _=>rfl⟩
theorem uP {m:Nat→Option Sp} {N:Nat} (hN:N≤511) (hm:∀k,N≤k→m k=none):∀(f sn:Nat),sn≤N→N-sn<f→sn≤kK m f sn∧kK m f sn≤N∧dB (m (kK m f sn))=false∧∀k,sn≤k→k<kK m f sn→dB (m k)=true
 |0,sn,_,h=>by omega
 |f+1,sn,h1,h2=>by
  unfold kK;by_cases hc:dB (m sn)=true
  ·rw[if_pos hc];have hlt:sn<N:=by
    rcases Nat.lt_or_ge sn N with h|h
    ·exact h
    ·rw[hm sn h] at hc;cases hc
   have hu:d9 sn=sn+1:=by unfold d9;omega
   rw[hu];obtain ⟨a,b,c,d⟩:=uP hN hm f (sn+1) (by omega) (by omega);refine ⟨by omega,b,c,fun k hk1 hk2=> ?_⟩;by_cases e:k=sn
   ·rw[e];exact hc
   ·exact d k (by omega) hk2
  ·rw[if_neg hc];exact ⟨aN,h1,by simpa using hc,fun k h3 h4=>by omega⟩
structure kN (x:Ou) (p:Sp):Prop where
 agr:Xn (yo x) (p.fl,p.da)
 size:(p.size=none∧p.fl.length<aC x)∨(p.size=some (aC x)∧p.fl.length=aC x)
theorem kN.new {x:Ou} (h:1≤aC x):kN x Bc:=⟨⟨rfl,Nat.zero_le _,fun i f b hf=>by simp[Bc] at hf⟩,.inl ⟨rfl,h⟩⟩
theorem kN.whole {x:Ou} {p:Sp} (h:kN x p) (hc:fE p=true):p.size=some (aC x)∧p.fl=(yo x).map Prod.fst∧p.da=(yo x).map Prod.snd:=by
 rcases h.size with ⟨h1,_⟩|⟨h1,h2⟩
 ·unfold fE at hc;rw[h1] at hc;cases hc
 ·unfold fE at hc;rw[h1] at hc;simp only[Bool.and_eq_true,decide_eq_true_eq] at hc;exact ⟨h1,h.agr.whole (by rw[rX];exact hc.2)⟩
theorem kN.fits {x:Ou} {p:Sp} (h:kN x p) {a:jv} (ha:Piece x a):Df p a=false:=by
 have h1:=ha.le;unfold Df;rcases h.size with ⟨e,hl⟩|⟨e,hl⟩
 ·rw[e];dsimp only;cases hf:xK a with
  |false=>rfl
  |true=>
   have:=ha.fin.1 hf;simp;omega
 ·rw[e];dsimp only;cases hf:xK a with
  |false=>simpa using h1
  |true=>
   have:=ha.fin.1 hf;simp[this]
theorem wU (k:Nat) (l:List Fl):(iP k l).length=max l.length k:=by simp[iP];omega
theorem kN.take {x:Ou} {p:Sp} (h:kN x p) {a:jv} (ha:Piece x a):kN x (ed p a):=by
 have hle:=ha.le;have hal:=h.agr.le;dsimp only at hal;rw[rX] at hal;have hw:=nT (dN a.s a.e a.ps.length 0 a.ps) a.off (iP (jV a) p.fl,oF (jV a) p.da);refine ⟨LK _ _ _ (Xo h.agr (by rw[rX];exact hle)) ha.eq,?_⟩;have hlen:(ed p a).fl.length=max p.fl.length (jV a):=by
  unfold ed;dsimp only;rw[hw.1];exact wU _ _
 rw[hlen];unfold ed;dsimp only;cases hf:xK a with
 |true=>
  have:=ha.fin.1 hf;rw[if_pos rfl,this];exact .inr ⟨rfl,by omega⟩
 |false=>
  have hne:jV a≠aC x:=fun e=>by rw[ha.fin.2 e] at hf;cases hf
  rw[if_neg (by simp)];rcases h.size with ⟨e,hl⟩|⟨e,hl⟩
  ·exact .inl ⟨e,by omega⟩
  ·exact .inr ⟨e,by omega⟩
theorem kN.stays {x:Ou} {p:Sp} (h:kN x p) {a:jv} (ha:Piece x a) (hc:fE p=true):fE (ed p a)=true:=by
 have hle:=ha.le;have h2:=h.take ha;obtain ⟨c1,c2,_⟩:=h.whole hc;have hfl:p.fl.length=aC x:=by rw[c2,List.length_map,rX]
 have hall:lJ p.fl=p.fl.length:=by
  unfold fE at hc;rw[c1] at hc;simp only[Bool.and_eq_true,decide_eq_true_eq] at hc;omega
 have hlen:(ed p a).fl.length=max p.fl.length (jV a):=by
  unfold ed;dsimp only;rw[(nT (dN a.s a.e a.ps.length 0 a.ps) a.off (iP (jV a) p.fl,oF (jV a) p.da)).1];exact wU _ _
 have hg:lJ (ed p a).fl=(ed p a).fl.length:=nU _ fun i hi=>by
  refine Bo _ _ _ i ?_;show (eP (iP (jV a) p.fl) i).1=true
  rw[Xp];have hi2:i<p.fl.length:=by omega
  rw[jS (List.getElem?_eq_getElem hi2)];exact Bq p.fl hall i _ (List.getElem?_eq_getElem hi2)
 have hpos:1≤aC x:=by
  unfold fE at hc;rw[c1] at hc;simp only[Bool.and_eq_true,decide_eq_true_eq] at hc;exact hc.1
 rcases h2.size with ⟨_,hl⟩|⟨e,hl⟩
 ·omega
 ·unfold fE;rw[e];simp only[Bool.and_eq_true,decide_eq_true_eq];omega
theorem kN.full {x:Ou} {p:Sp} (h:kN x p) {a:jv} (ha:Piece x a) (h0:a.off=0) (hf:xK a=true):fE (ed p a)=true:=by
 have he:=ha.fin.1 hf;have h2:=h.take ha;have hal:=h.agr.le;dsimp only at hal;rw[rX] at hal;have hsum:jV a=aj a.ps:=by unfold jV;omega
 have hpos:=ha.pos;have hlen:(ed p a).fl.length=max p.fl.length (jV a):=by
  unfold ed;dsimp only;rw[(nT (dN a.s a.e a.ps.length 0 a.ps) a.off (iP (jV a) p.fl,oF (jV a) p.da)).1];exact wU _ _
 have hg:lJ (ed p a).fl=(ed p a).fl.length:=nU _ fun i hi=>by
  refine LM _ _ _ (Bp _ _ _ _ _) ?_ i (by omega) ?_
  ·rw[mY];show a.off+_≤(iP (jV a) p.fl).length
   rw[wU];omega
  ·rw[mY];omega
 rcases h2.size with ⟨_,hl⟩|⟨e,hl⟩
 ·omega
 ·unfold fE;rw[e];simp only[Bool.and_eq_true,decide_eq_true_eq];omega
structure Rx (aO:List (List UInt8)) (N:Nat) (pu:Nat→Ou) (left:Nat→List (List UInt8)) (sent:Nat→Nat) (st:Rc):Prop where
 nx:st.next≤N
 m:∀k p,st.m k=some p→st.next≤k∧k<N∧k<st.high∧kN (pu k) p
 op:yV left sent st.next st.op st.sm
 s1:st.next≤st.status
 s2:st.status≤N
 sc:dB (st.m st.status)=false
 h1:st.next≤st.high
 h2:st.high≤N
 tr:st.ro=true→st.iO≤st.high
structure pO (aO:List (List UInt8)) (N:Nat) (pu:Nat→Ou) (left:Nat→List (List UInt8)) (sent:Nat→Nat) (st:Rc):Prop extends Rx aO N pu left sent st where
 nc:dB (st.m st.next)=false
 tn:st.ro=true→st.next<st.iO
def Has (st:Rc) (k:Nat):Prop:=k<st.next∨dB (st.m k)=true
theorem Rx.none_ {st:Rc} (h:Rx aO N pu left sent st) {k:Nat} (hk:N≤k):st.m k=none:=by
 cases hm:st.m k with
 |none=>rfl
 |some p=>have:=(h.m k p hm).2.1;omega
theorem pO.start (T:Cq aO N pu left sent):pO aO N pu left sent gq:=
 {nx:=Nat.zero_le _,m:=fun k p h=>by simp[gq] at h,op:=⟨by simp[gq,T.s0],fun h=>by simp[gq] at h⟩,s1:=aN,s2:=Nat.zero_le _,sc:=rfl,h1:=aN,h2:=Nat.zero_le _,tr:=fun h=>by simp[gq] at h,nc:=rfl,tn:=fun h=>by simp[gq] at h}
theorem Rx.wS (T:Cq aO N pu left sent):∀(f:Nat) {st:Rc},Rx aO N pu left sent st→N-st.next<f→
 Rx aO N pu left sent (cK f st).1∧dB ((cK f st).1.m (cK f st).1.next)=false∧(∃g,(cK f st).2=g∧oJ aO left (cK f st).1.next=oJ aO left st.next++g)∧
 (∀k,Has st k→Has (cK f st).1 k)∧(cK f st).1.ro=st.ro∧(cK f st).1.iO=st.iO∧(cK f st).1.high=st.high∧(cK f st).1.status=st.status∧(cK f st).1.due=st.due∧(cK f st).1.Bd=st.Bd∧(cK f st).1.now=st.now
 |0,st,_,hf=>by omega
 |f+1,st,h,hf=>by
  unfold cK;cases hm:st.m st.next with
  |none=>exact ⟨h,by rw[hm];rfl,⟨[],rfl,by simp⟩,fun k hk=>hk,rfl,rfl,rfl,rfl,rfl,rfl,rfl⟩
  |some p=>
   dsimp only;by_cases hc:fE p=true
   ·rw[if_pos hc];have hN:=T.n;obtain ⟨_,hlt,hhi,K8⟩:=h.m _ p hm;obtain ⟨e1,e2,e3⟩:=K8.whole hc;obtain ⟨g,hg,hg2,hg3⟩:=T.dlv hlt h.op e2 e3;have hsz:yE p=aC (pu st.next):=by unfold yE;rw[e1];rfl
    have hup:d9 st.next=st.next+1:=by unfold d9;omega
    have hns:st.next≠st.status:=fun e=>by
     have:=h.sc;rw[←e,hm] at this;have h2:dB (some p)=fE p:=rfl;rw[h2,hc] at this;cases this
    have hs1:=h.s1;have h1:Rx aO N pu left sent (zl st p):=by
     refine ⟨by show d9 st.next≤N;omega,fun k q hk=> ?_,?_,by show d9 st.next≤st.status;omega,h.s2,?_,by show d9 st.next≤st.high;omega,h.h2,h.tr⟩
     ·have hk2:(if k=st.next then none else st.m k)=some q:=hk;split at hk2
      ·cases hk2
      ·obtain ⟨a,b,c,d⟩:=h.m k q hk2;refine ⟨?_,b,c,d⟩;show d9 st.next≤k
       omega
     ·show yV left sent (d9 st.next) (xL st p).1 (xL st p).2.1
      unfold xL;rw[hsz,hup];exact hg3
     ·show dB (fJ st.m st.next none st.status)=false
      unfold fJ;rw[if_neg (fun e=>hns e.symm)];exact h.sc
    obtain ⟨i1,i2,⟨g',i3,i4⟩,i5,i6,i7,i8,i9,ia,ib,ic⟩:=Rx.wS T f h1 (by show N-d9 st.next<f;omega);refine ⟨i1,i2,⟨_,rfl,?_⟩,fun k hk=>i5 k ?_,i6,i7,i8,i9,ia,ib,ic⟩
    ·rw[i4,i3];have:(xL st p).2.2=g:=by unfold xL;rw[hsz];exact hg2
     rw[this];show oJ aO left (d9 st.next)++g'=_
     rw[hup,hg,List.append_assoc]
    ·rcases hk with hk|hk
     ·exact .inl (by show k<d9 st.next;omega)
     ·by_cases e:k=st.next
      ·exact .inl (by show k<d9 st.next;omega)
      ·refine .inr ?_;show dB (fJ st.m st.next none k)=true
       unfold fJ;rw[if_neg e];exact hk
   ·rw[if_neg hc];refine ⟨h,?_,⟨[],rfl,by simp⟩,fun k hk=>hk,rfl,rfl,rfl,rfl,rfl,rfl,rfl⟩;rw[hm];simpa[dB] using hc
theorem pO.goes (T:Cq aO N pu left sent) {st:Rc} (h:pO aO N pu left sent st) (c:Cf) (now:Int):pO aO N pu left sent (cZ c st now)∧(cZ c st now).next=st.next∧(cZ c st now).m=st.m:=by
 have hc:pO aO N pu left sent (gX st now):=⟨⟨h.nx,h.m,h.op,h.s1,h.s2,h.sc,h.h1,h.h2,h.tr⟩,h.nc,h.tn⟩;unfold cZ;split
 ·exact ⟨hc,rfl,rfl⟩
 ·rename_i hn;have hro:(gX st now).ro=true:=by
   cases hh:st.ro with
   |true=>exact hh
   |false=>exact absurd (.inl hh) hn
  have hN:=T.n;have ht:=hc.tn hro;have ht2:=hc.tr hro;have D4:=hc.h2;obtain ⟨a,b,d,_⟩:=uP (m:=(gX st now).m) hN (fun k hk=>hc.none_ hk) 1024 (gX st now).iO (by omega) (by omega);have h2:pO aO N pu left sent {gX st now with status:=kK (gX st now).m 1024 (gX st now).iO,due:=true,ro:=false}:=
   ⟨⟨hc.nx,hc.m,hc.op,by dsimp only;omega,b,d,hc.h1,hc.h2,fun e=>by cases e⟩,hc.nc,fun e=>by cases e⟩
  unfold uy;dsimp only;split
  ·exact ⟨⟨⟨h2.nx,h2.m,h2.op,h2.s1,h2.s2,h2.sc,h2.h1,h2.h2,fun _=>aN⟩,h2.nc,fun _=>Nat.lt_of_lt_of_le ht ht2⟩,rfl,rfl⟩
  ·exact ⟨h2,rfl,rfl⟩
theorem pO.ends {st:Rc} (h:Rx aO N pu left sent st) (hN:N≤511) (hnc:dB (st.m st.next)=false) (c:Cf):pO aO N pu left sent (Be c st)∧(Be c st).next=st.next∧(Be c st).m=st.m:=by
 have hnx:=h.nx;have hh:=h.h2;have Oc:=h.h1;have key:∀s1:Rc,Rx aO N pu left sent s1→s1.m=st.m→s1.next=st.next→s1.high=st.high→(s1.ro=true→s1.next<s1.iO)→
  pO aO N pu left sent (if s1.ro=false∧s1.high≠s1.next then qj c s1 else s1)∧(if s1.ro=false∧s1.high≠s1.next then qj c s1 else s1).next=st.next∧(if s1.ro=false∧s1.high≠s1.next then qj c s1 else s1).m=st.m:=by
  intro s1 hs hm hn hg ht;split
  ·rename_i hc;refine ⟨⟨⟨hs.nx,hs.m,hs.op,hs.s1,hs.s2,hs.sc,hs.h1,hs.h2,fun _=>aN⟩,?_,fun _=> ?_⟩,hn,hm⟩
   ·show dB (s1.m s1.next)=false
    rw[hm,hn];exact hnc
   ·show s1.next<s1.high
    have:=hs.h1;have:=hc.2;omega
  ·exact ⟨⟨hs,by rw[hm,hn];exact hnc,ht⟩,hn,hm⟩
 unfold Be;dsimp only;split
 ·exact key _ ⟨h.nx,h.m,h.op,h.s1,h.s2,h.sc,h.h1,h.h2,fun e=>by cases e⟩ rfl rfl rfl (fun e=>by cases e)
 ·rename_i hc;refine key st h rfl rfl rfl fun hr=> ?_
  have ht:=h.tr hr;unfold bO at hc;omega
theorem pO.Ls (T:Cq aO N pu left sent) {st:Rc} (h:pO aO N pu left sent st) (c:Cf) {k:Nat} (hk:k<N) {a:jv} (ha:Piece (pu k) a):
 pO aO N pu left sent (vT c st a).1∧(vT c st a).2.2=0∧(∃g,(vT c st a).2.1=g∧oJ aO left (vT c st a).1.next=oJ aO left st.next++g)∧(∀j,Has st j→Has (vT c st a).1 j)∧(a.off=0→xK a=true→Has (vT c st a).1 k):=by
 have hN:=T.n;have hsn:a.sn=k:=by rw[ha.sn,T.sn k hk]
 have hnx:=h.nx;unfold vT;rw[hsn];by_cases hw:512≤bO st k
 ·rw[if_pos hw];refine ⟨⟨⟨h.nx,h.m,h.op,h.s1,h.s2,h.sc,h.h1,h.h2,h.tr⟩,h.nc,h.tn⟩,rfl,⟨[],rfl,by simp⟩,fun j hj=>hj,fun _ _=> .inl ?_⟩;show k<st.next
  unfold bO at hw;omega
 ·rw[if_neg hw];have hkn:st.next≤k:=by unfold bO at hw;omega
  have K8:kN (pu k) (gF st k):=by
   unfold gF;cases hm:st.m k with
   |none=>exact kN.new (T.size_pos hk)
   |some p=>exact (h.m k p hm).2.2.2
  rw[K8.fits ha,if_neg (by simp)];have htk:=K8.take ha;have hhi:(if bO st st.high≤bO st k then d9 k else st.high)=max st.high (k+1):=by
   have:=h.h1;have:=h.h2;unfold bO d9;split<;>omega
  have hhas:∀j,dB (st.m j)=true→dB (fJ st.m k (some (ed (gF st k) a)) j)=true:=by
   intro j hj;unfold fJ;split
   ·rename_i e;subst e;cases hm:st.m j with
    |none=>rw[hm] at hj;cases hj
    |some p=>
     rw[hm] at hj;have e2:gF st j=p:=by unfold gF;rw[hm];rfl
     rw[e2] at K8 ⊢;exact K8.stays ha hj
   ·exact hj
  have hs0:∀(j:Nat) (q:Sp),fJ st.m k (some (ed (gF st k) a)) j=some q→st.next≤j∧j<N∧j<max st.high (k+1)∧kN (pu j) q:=by
   intro j q hj;unfold fJ at hj;split at hj
   ·rename_i e;cases hj;subst e;exact ⟨hkn,hk,by omega,htk⟩
   ·obtain ⟨p1,p2,p3,p4⟩:=h.m j q hj;exact ⟨p1,p2,by omega,p4⟩
  have hnone:∀j,N≤j→fJ st.m k (some (ed (gF st k) a)) j=none:=fun j hj=>by
   cases hm:fJ st.m k (some (ed (gF st k) a)) j with
   |none=>rfl
   |some q=>have:=(hs0 j q hm).2.1;omega
  have hs1:=h.s1;have hs2:=h.s2;have Oc:=h.h1;have D4:=h.h2;obtain ⟨f1,f2,f3,_⟩:=uP hN hnone 1024 st.status hs2 (by omega);have hst:lK st a (gF st k)= {st with m:=fJ st.m k (some (ed (gF st k) a)),due:=st.due||a.po,high:=max st.high (k+1),status:=kK (fJ st.m k (some (ed (gF st k) a))) 1024 st.status}:=by
   unfold lK;dsimp only;rw[hsn];have:(if bO {st with m:=fJ st.m k (some (ed (gF st k) a)),due:=st.due||a.po} st.high≤bO {st with m:=fJ st.m k (some (ed (gF st k) a)),due:=st.due||a.po} k then d9 k else st.high)=max st.high (k+1):=hhi;rw[this]
  have hR:Rx aO N pu left sent (lK st a (gF st k)):=by
   rw[hst];exact ⟨h.nx,hs0,h.op,by dsimp only;omega,f2,f3,by dsimp only;omega,by dsimp only;omega,fun e=>Nat.le_trans (h.tr e) (by dsimp only;omega)⟩
  have hnx2:(lK st a (gF st k)).next=st.next:=by rw[hst]
  obtain ⟨d1,d2,⟨g,d3,d4⟩,d5,_⟩:=hR.wS T 1024 (by rw[hnx2];omega);obtain ⟨e1,e2,e3⟩:=pO.ends d1 hN d2 c;dsimp only;have hH:∀j,Has (cK 1024 (lK st a (gF st k))).1 j→Has (Be c (cK 1024 (lK st a (gF st k))).1) j:=fun j hj=>by
   unfold Has;rw[e2,e3];exact hj
  refine ⟨e1,rfl,⟨g,d3,by rw[e2,d4,hnx2]⟩,fun j hj=>hH j (d5 j ?_),fun h0 hf=>hH k (d5 k (.inr ?_))⟩
  ·rcases hj with hj|hj
   ·exact .inl (by rw[hnx2];exact hj)
   ·refine .inr ?_;rw[hst];exact hhas j hj
  ·rw[hst];show dB (fJ st.m k _ k)=true
   unfold fJ;rw[if_pos rfl];exact K8.full ha h0 hf
end
end
section
def UN (a b:Nk):Prop:=a.sn<b.sn∨(a.sn=b.sn∧a.part=true∧b.part=true∧a.lt<b.fr)
structure NR (aJ:Nat) (n:Nk):Prop where
 s0:0≤n.sn
 s1:n.sn<aJ
 p:n.part=true→0≤n.fr∧n.fr≤n.lt∧n.lt≤32767
 q:n.part=false→n.fr=0∧n.lt=0
theorem NR.more {a b:Nat} {n:Nk} (h:NR a n) (hab:a≤b):NR b n:=⟨h.s0,by have:=h.s1;omega,h.p,h.q⟩
theorem uQ:∀(l:List Fl) (i fr:Nat),fr≤i→(∀r∈dO l i fr,fr≤r.1∧r.1≤r.2∧r.2<i+l.length)∧(dO l i fr).Pairwise (fun a b=>a.2<b.1)
 | [],i,fr,h=>by
  unfold dO;split
  ·refine ⟨fun r hr=> ?_,by simp⟩;simp at hr;subst hr;dsimp only[List.length_nil];omega
  ·exact ⟨fun r hr=>by simp at hr,by simp⟩
 |f::t,i,fr,h=>by
  unfold dO;split
  ·obtain ⟨a,b⟩:=uQ t (i+1) fr (by omega);refine ⟨fun r hr=> ?_,b⟩;have:=a r hr;rw[List.length_cons];omega
  ·obtain ⟨a,b⟩:=uQ t (i+1) (i+1) (by omega);split
   ·refine ⟨fun r hr=> ?_,?_⟩
    ·simp only[List.mem_cons] at hr;rw[List.length_cons];rcases hr with rfl|hr
     ·dsimp only;omega
     ·have:=a r hr;omega
    ·rw[List.pairwise_cons];refine ⟨fun r hr=> ?_,b⟩;have:=a r hr;dsimp only;omega
   ·refine ⟨fun r hr=> ?_,b⟩;have:=a r hr;rw[List.length_cons];omega
theorem uR:∀(l:List Fl) (i fr:Nat),(fr<i∨∃(j:Nat) (f:Fl),l[j]? =some f∧f.1=false)→fr≤i→dO l i fr≠ []
 | [],i,fr,h,hf=>by
  unfold dO;rcases h with h|⟨j,f,hj,_⟩
  ·rw[if_pos h];simp
  ·simp at hj
 |g::t,i,fr,h,hf=>by
  unfold dO;split
  ·exact uR t (i+1) fr (.inl (by omega)) (by omega)
  ·rename_i hg;split
   ·simp
   ·refine uR t (i+1) (i+1) ?_ (aN);rcases h with h|⟨j,f,hj,hff⟩
    ·omega
    ·cases j with
     |zero=>simp at hj;subst hj;exact absurd hff hg
     |succ j=>exact .inr ⟨j,f,by simpa using hj,hff⟩
theorem UO {l:List Fl} (h:lJ l≠l.length):∃(j:Nat) (f:Fl),l[j]? =some f∧f.1=false:=by
 refine Classical.byContradiction fun hn=>h (nU l fun i hi=> ?_)
 rw[jS (List.getElem?_eq_getElem hi)];cases hf:l[i].1 with
 |true=>rfl
 |false=>exact absurd ⟨i,l[i],List.getElem?_eq_getElem hi,hf⟩ hn
def Jc (size:Nat) (n:Nk):Prop:=(gD n).1≤min (gD n).2 (size-1)
theorem NS {k:Nat} {l:List Fl} (h:k≤l.length):iP k l=l:=by
 unfold iP;rw[show k-l.length=0 by omega];simp
theorem NT {x:Ou} {sn:Nat} {o:Option Sp} (hpos:1≤aC x) (hsz:aC x≤32767) (ho:∀p,o=some p→kN x p) (hc:dB o=false):
 (∀n∈jw sn o,n.sn=sn∧NR (sn+1) n)∧(jw sn o).Pairwise UN∧∃n∈jw sn o,Jc (aC x) n:=by
 cases o with
 |none=>
  refine ⟨fun n hn=> ?_,by simp[jw],⟨sn,false,0,0⟩,by simp[jw],by simp[Jc,gD]⟩;simp only[jw,List.mem_singleton] at hn;subst hn;exact ⟨rfl,by dsimp only;omega,by dsimp only;omega,(fun h=>by cases h),fun _=>⟨rfl,rfl⟩⟩
 |some p=>
  have hs:=ho p rfl;obtain ⟨g1,g2⟩:=uQ p.fl 0 0 (aN);have hlen:p.fl.length≤aC x:=by rcases hs.size with ⟨_,h⟩|⟨_,h⟩<;>omega
  have m1:∀n∈(dO p.fl 0 0).map (eu sn),n.sn=sn∧NR (sn+1) n∧n.part=true∧n.lt<p.fl.length:=fun n hn=>by
   rw[List.mem_map] at hn;obtain ⟨r,hr,rfl⟩:=hn;obtain ⟨a,b,c⟩:=g1 r hr;refine ⟨rfl,⟨by simp only[eu];omega,by simp only[eu];omega,fun _=> ?_,fun h=>by cases h⟩,rfl,by simp only[eu];omega⟩;simp only[eu];omega
  have m2:((dO p.fl 0 0).map (eu sn)).Pairwise UN:=by
   rw[List.pairwise_map];refine g2.imp fun {a b} hab=> .inr ⟨rfl,rfl,rfl,?_⟩
   simp only[eu];omega
  rcases hs.size with ⟨e,hl⟩|⟨e,hl⟩
  ·have hE:jw sn (some p)=(dO p.fl 0 0).map (eu sn)++ [⟨sn,true,p.fl.length,32767⟩]:=by simp only[jw,e]
   rw[hE];refine ⟨fun n hn=> ?_,?_,⟨sn,true,p.fl.length,32767⟩,by simp,?_⟩
   ·rw[List.mem_append] at hn;rcases hn with hn|hn
    ·exact ⟨(m1 n hn).1,(m1 n hn).2.1⟩
    ·simp only[List.mem_singleton] at hn;subst hn;refine ⟨rfl,by dsimp only;omega,by dsimp only;omega,fun _=> ?_,fun h=>by cases h⟩;dsimp only;omega
   ·rw[List.pairwise_append];refine ⟨m2,by simp,fun a ha b hb=> ?_⟩;simp only[List.mem_singleton] at hb;subst hb;obtain ⟨q1,_,q3,q4⟩:=m1 a ha;exact .inr ⟨q1,q3,rfl,q4⟩
   ·simp only[Jc,gD,if_true];omega
  ·have hE:jw sn (some p)=(dO (iP (aC x) p.fl) 0 0).map (eu sn):=by simp only[jw,e]
   rw[hE,NS (by omega)];refine ⟨fun n hn=>⟨(m1 n hn).1,(m1 n hn).2.1⟩,m2,?_⟩;have hc2:fE p=false:=hc;unfold fE at hc2;rw[e] at hc2;dsimp only at hc2;have hne:lJ p.fl≠p.fl.length:=fun h=>by
    rw[decide_eq_true (show 0<aC x by omega),decide_eq_true (show lJ p.fl=aC x by omega)] at hc2;cases hc2
   have hex:=uR p.fl 0 0 (.inr (UO hne)) (aN);obtain ⟨r,hr⟩:=List.exists_mem_of_ne_nil _ hex;obtain ⟨a,b,c⟩:=g1 r hr;refine ⟨eu sn r,List.mem_map.2 ⟨r,hr,rfl⟩,?_⟩;simp only[Jc,gD,eu,if_true];omega
theorem Jd (l:List (Nat × Nat)) (x:Nat × Nat):gL l x≠ []:=by
 unfold gL;split
 ·simp
 ·split<;>simp
theorem EH (size:Nat):∀(l:List Nk) (a:List (Nat × Nat)),a≠ []→l.foldl (fI size) a≠ []
 | [],a,h=>h
 |n::r,a,h=>by
  rw[List.foldl_cons];refine EH size r _ ?_;unfold fI;split
  ·exact h
  ·exact Jd _ _
theorem EI (size:Nat):∀(l:List Nk) (a:List (Nat × Nat)),(∃n∈l,Jc size n)→l.foldl (fI size) a≠ []
 | [],_,h=>by obtain ⟨n,hn,_⟩:=h;simp at hn
 |m::r,a,h=>by
  rw[List.foldl_cons];obtain ⟨n,hn,ha⟩:=h;rcases List.mem_cons.1 hn with rfl|hn
  ·refine EH size r _ ?_;unfold fI Jc at*;rw[if_neg (by omega)];exact Jd _ _
  ·exact EI size r _ ⟨n,hn,ha⟩
section
variable {aO:List (List UInt8)} {N:Nat} {pu:Nat→Ou} {left:Nat→List (List UInt8)} {sent:Nat→Nat}
structure Q0 (N:Nat) (pu:Nat→Ou) (st:Rc) (aJ:Nat) (l:List Nk):Prop where
 len:l.length≤512
 ok:∀n∈l,NR aJ n
 pw:l.Pairwise UN
 Z4:∀k,k<aJ→Has st k∨∃n∈l,n.sn=(k:Int)∧Jc (aC (pu k)) n
theorem yt (T:Cq aO N pu left sent) {st:Rc} (h:pO aO N pu left sent st):∀(f sn:Nat) (l:List Nk),st.next≤sn→sn≤st.status→st.status-sn<f→Q0 N pu st sn l→
 sn≤(qm st f sn l).1∧(qm st f sn l).1≤st.status∧Q0 N pu st (qm st f sn l).1 (qm st f sn l).2
 |0,sn,l,_,_,hf,_=>by omega
 |f+1,sn,l,h1,h2,hf,hl=>by
  unfold qm;by_cases he:sn=st.status
  ·rw[if_pos he];exact ⟨by omega,aN,he ▸ hl⟩
  ·rw[if_neg he];have hN:=T.n;have hs2:=h.s2;have hup:d9 sn=sn+1:=by unfold d9;omega
   have hlt:sn<N:=by omega
   by_cases hc:dB (st.m sn)=true
   ·rw[if_pos hc,hup];obtain ⟨a,b,c⟩:=yt T h f (sn+1) l (by omega) (by omega) (by omega) ⟨hl.len,fun n hn=>(hl.ok n hn).more (by omega),hl.pw,fun k hk=>by
     by_cases e:k=sn
     ·exact .inl (.inr (by rw[e];exact hc))
     ·exact hl.Z4 k (by omega)⟩
    exact ⟨by omega,b,c⟩
   ·rw[if_neg hc];split
    ·exact ⟨aN,by dsimp only;omega,hl⟩
    ·rename_i hroom;obtain ⟨e1,e2,e3⟩:=NT (x:=pu sn) (sn:=sn) (o:=st.m sn) (T.size_pos hlt) (T.tot sn hlt) (fun p hp=>(h.m sn p hp).2.2.2) (by simpa using hc);rw[hup];obtain ⟨a,b,c⟩:=yt T h f (sn+1) (l++jw sn (st.m sn)) (by omega) (by omega) (by omega) ⟨by rw[List.length_append];omega,fun n hn=>by
      rcases List.mem_append.1 hn with hn|hn
      ·exact (hl.ok n hn).more (by omega)
      ·exact (e1 n hn).2,by
      rw[List.pairwise_append];refine ⟨hl.pw,e2,fun x hx y hy=> .inl ?_⟩;have:=(hl.ok x hx).s1;have:=(e1 y hy).1;omega,fun k hk=>by
      by_cases e:k=sn
      ·subst e;obtain ⟨n,hn,ha⟩:=e3;exact .inr ⟨n,List.mem_append.2 (.inr hn),(e1 n hn).1,ha⟩
      ·rcases hl.Z4 k (by omega) with hh|⟨n,hn,ha⟩
       ·exact .inl hh
       ·exact .inr ⟨n,List.mem_append.2 (.inl hn),ha⟩⟩
     exact ⟨by omega,b,c⟩
theorem pO.report (T:Cq aO N pu left sent) {st:Rc} (h:pO aO N pu left sent st):st.next≤(lm st).1∧(lm st).1≤st.status∧Q0 N pu st (lm st).1 (lm st).2:=by
 have hN:=T.n;have h1:=h.s1;have h2:=h.s2;exact yt T h 1024 st.next [] (aN) h1 (by omega) ⟨by simp,by simp,by simp,fun k hk=> .inl (.inl hk)⟩
end
end
end Go.Proofs.YtbhiklnljiehiaaGreat
