/- am: report. -/
import Derived.Test.YtbhiklnljiehiaaGreatM2bj
import Derived.Test.YtbhiklnljiehiaaGreatM2bp
import Derived.Test.YtbhiklnljiehiaaGreatM2bq
import Derived.Test.YtbhiklnljiehiaaGreatM2br
namespace Go.Proofs.YtbhiklnljiehiaaGreat
section
open Go.RowKit Go.Shelf
attribute [local go_sem] Oper.semAt_some
theorem H8 {bs:List UInt8} {aL er:Nat}:∀(f:Nat) (more:Bool) (pos:Nat) (acc:List Nk),oQ bs aL f more pos acc= .inl er→er=5∨er=9
 |0,false,_,_,h=>by simp[oQ] at h
 |_+1,false,_,_,h=>by simp[oQ] at h
 |0,true,_,_,h=>by simp[oQ] at h;omega
 |f+1,true,pos,acc,h=>by
  rw[oQ] at h;split at h
  ·cases h;exact .inl rfl
  ·split at h
   ·exact H8 f _ _ _ h
   ·cases h;exact .inr rfl
theorem QD {bs:List UInt8} {er:Nat} (h:oU bs= .inl er):er=5∨er=9:=by
 unfold oU at h;split at h
 ·cases h;exact .inl rfl
 split at h
 ·cases h;exact .inr rfl
 split at h
 ·cases h;exact H8 _ _ _ _ (by assumption)
 ·split at h
  ·cases h
  ·cases h;exact .inr rfl
theorem EN (b:Nat) (A:Option Addr) (n cc:Nat) (bs:List UInt8) (w:World) (hb:au w b 31 #[.slice A n cc]) (hs:Sl w w.heap.size A n cc (bO bs)) (hsm:n≤1000000):
 Calls Tryz.prog 91 #[.pointer (some ⟨b,0,none⟩)] w (I9 w (oU bs)):=by
 have hB0:=(Below.refl w.heap.size w).alloc (aN) (.cells #[.int .i64 0,.slice none 0 0] 133);have hcall:=Gm A n cc bs _ ((hs.below hB0).more hB0.size) hsm;have b0:=au.new w 133 #[.int .i64 0,.slice none 0 0];have x0:=(hb.alloc (.cells #[.int .i64 0,.slice none 0 0] 133)).cell 0;simp at x0;have Gy:=ah hcall;have HB0:=ah hB0;have B0:=ah b0;clear hcall hB0 hb hs b0;go_enter Tryz.func91,Tryz.ntmps91;go_wp2_with fail;refine Gy.out.mono ?_;rintro e1 w1 ⟨hk,⟨er,hr,rfl⟩|⟨aL,l,A',c',hr,rfl,hn,hfr⟩⟩
 ·have b1:=B0.out.below hk B0.out.lt;have c0:=b1.cell 0;have c1:=b1.cell 1;have f0:=b1.frozen 0;have f1:=b1.frozen 1;have b2:=(b1.av 0 (.int .i64 0)).av 1 (.slice none 0 0);simp at b2;have d0:=b2.cell 0;have d1:=b2.cell 1;simp at c0 c1 d0 d1;have HK:=ah hk;have HZ:=ah (show w.heap.size≤(w.alloc (.cells #[.int .i64 0,.slice none 0 0] 133)).heap.size by simp);clear hk b1 b2;go_wp2_with fail;refine bodyPost_ret (v:= .tuple #[.agg #[.int .i64 0,.slice none 0 0],.int .i64 er]) ?_ rfl ?_
  ·simp[results,Tryz.results91,go_sem,d0,d1]
  ·exact ⟨((HB0.out.trans (HK.out.mono HZ.out)).setCell (p:=⟨w.heap.size,0,none⟩) (aN) _).setCell (p:=⟨w.heap.size,1,none⟩) (aN) _,.inl ⟨er,hr,rfl⟩⟩
 ·have b1:=B0.out.below hk B0.out.lt;have c0:=b1.cell 0;have c1:=b1.cell 1;have f0:=b1.frozen 0;have f1:=b1.frozen 1;have b2:=(b1.av 0 (.int .i64 aL)).av 1 (.slice A' l.length c');simp at b2;have d0:=b2.cell 0;have d1:=b2.cell 1;simp at c0 c1 d0 d1;have HK:=ah hk;have HZ:=ah (show (w.alloc (.cells #[.int .i64 0,.slice none 0 0] 133)).heap.size=w.heap.size+1 by simp);have hn2:bM ((w1.setCell ⟨w.heap.size,0,none⟩ (.int .i64 aL)).setCell ⟨w.heap.size,1,none⟩ (.slice A' l.length c')) A' l.length c' l:=
   have hne:∀ad,A'=some ad→ad.block≠w.heap.size:=fun ad e=>by have:=hfr ad e;have:=HZ.out;omega
   (hn.o9 hne _).o9 hne _
  have HN:=ah hn2;have HF:=ah hfr;clear hk b1 b2 hn hn2 hfr;go_wp2_with fail;refine bodyPost_ret (v:= .tuple #[.agg #[.int .i64 aL,.slice A' l.length c'],.int .i64 0]) ?_ rfl ?_
  ·simp[results,Tryz.results91,go_sem,d0,d1]
  ·exact ⟨((HB0.out.trans (HK.out.mono (by have:=HZ.out;omega))).setCell (p:=⟨w.heap.size,0,none⟩) (aN) _).setCell (p:=⟨w.heap.size,1,none⟩) (aN) _,.inr ⟨aL,l,A',c',hr,rfl,HN.out,fun ad e=>by have:=HF.out ad e;have:=HZ.out;omega⟩⟩
def acA (w:World) (R:Sum Nat (Nat × List Nk)) (e:Ending) (w':World):Prop:=
 Below w.heap.size w w'∧((∃er:Nat,R= .inl er∧e=raise er)∨
  (∃(aL:Nat) (l:List Nk) (A:Option Addr) (c:Nat),R= .inr (aL,l)∧e= .returned (.agg #[.int .i64 aL,.slice A l.length c])∧bM w' A l.length c l∧∀ad,A=some ad→w.heap.size≤ad.block))
set_option maxRecDepth 100000 in
theorem Ka (b:Nat) (A:Option Addr) (n cc:Nat) (bs:List UInt8) (w:World) (hb:au w b 31 #[.slice A n cc]) (hs:Sl w w.heap.size A n cc (bO bs)) (hsm:n≤1000000):
 Calls Tryz.prog 90 #[.func (.func 91) #[] #[.pointer (some ⟨b,0,none⟩)]] w (acA w (oU bs)):=by
 have hB0:=(Below.refl w.heap.size w).alloc (aN) (.cells #[.int .i64 0,.slice none 0 0] 133);have hcall:=EN b A n cc bs _ (hb.alloc (.cells #[.int .i64 0,.slice none 0 0] 133)) ((hs.below hB0).more hB0.size) hsm;have b0:=au.new w 133 #[.int .i64 0,.slice none 0 0];have HZ:=ah (show (w.alloc (.cells #[.int .i64 0,.slice none 0 0] 133)).heap.size=w.heap.size+1 by simp);have HER:=ah (fun er=> @QD bs er);have Gy:=ah hcall;have HB0:=ah hB0;have B0:=ah b0;clear hcall hB0 hb hs b0;go_enter Tryz.func90,Tryz.ntmps90;go_wp2_with fail;refine Gy.out.mono ?_;rintro e1 w1 ⟨hk,⟨er,hr,rfl⟩|⟨aL,l,A',c',hr,rfl,hn,hfr⟩⟩
 ·have hB1:Below w.heap.size w w1:=HB0.out.trans (hk.mono (by have:=HZ.out;omega));have AL:((er:Int) !=0)=true:=by rcases HER.out er hr with e|e<;>subst e<;>rfl
  have hB2:=(hB1.alloc hB1.size (.cells #[.int .i64 0,.slice none 0 0] 133)).alloc (by have:=hB1.size;simp;omega) (.cells #[.int .i64 er] 53);have hbe:=au.new (w1.alloc (.cells #[.int .i64 0,.slice none 0 0] 133)) 53 #[.int .i64 er];rw[World.size_alloc] at hbe;have HM:=ah (oJ (w1.heap.size+1) (er:Int) AL _ hbe);clear hbe;have HB2:=ah hB2;have HR:=ah hr;clear hk hB1 hB2 AL hr;go_wp2_with (go_at_call 50;refine HM.out.mono ?_;rintro e2 w2 ⟨rfl,rfl⟩);exact ⟨rfl,HB2.out,.inl ⟨er,HR.out,rfl⟩⟩
 ·have hB1:Below w.heap.size w w1:=HB0.out.trans (hk.mono (by have:=HZ.out;omega));have b1:=B0.out.below hk B0.out.lt;have hB2:=(hB1.alloc hB1.size (.cells #[.int .i64 aL,.slice A' l.length c'] 133)).alloc (by have:=hB1.size;simp;omega) (.cells #[.int .i64 0] 53);have b2:=(b1.alloc (.cells #[.int .i64 aL,.slice A' l.length c'] 133)).alloc (.cells #[.int .i64 0] 53);have hn2:=(hn.alloc (.cells #[.int .i64 aL,.slice A' l.length c'] 133)).alloc (.cells #[.int .i64 0] 53);have hbe:=au.new (w1.alloc (.cells #[.int .i64 aL,.slice A' l.length c'] 133)) 53 #[.int .i64 0];rw[World.size_alloc] at hbe;have HM:=ah (nQ (w1.heap.size+1) _ hbe);clear hbe;have q1:=(au.new w1 133 #[.int .i64 aL,.slice A' l.length c']).alloc (.cells #[.int .i64 0] 53);have q0:=q1.cell 0;have q0':=q1.cell 1;have c0:=b2.cell 0;have c1:=b2.cell 1;have f0:=b2.frozen 0;have f1:=b2.frozen 1;have b3:=(b2.av 0 (.int .i64 aL)).av 1 (.slice A' l.length c');simp at b3;have d0:=b3.cell 0;have d1:=b3.cell 1;simp at c0 c1 d0 d1 q0 q0';have hne:∀ad,A'=some ad→ad.block≠w.heap.size:=fun ad e=>by have:=hfr ad e;have:=HZ.out;omega
  have HN:=ah ((hn2.o9 (o:=0) hne (.int .i64 aL)).o9 (o:=1) hne (.slice A' l.length c'));have HB2:=ah hB2;have HF:=ah hfr;clear hk b1 b2 b3 hn hn2 hfr hB1 hB2 q1 hne;go_wp2_with (go_at_call 50;refine HM.out.mono ?_;rintro e2 w2 ⟨rfl,rfl⟩);refine bodyPost_ret (v:= .agg #[.int .i64 aL,.slice A' l.length c']) ?_ rfl ?_
  ·simp[results,Tryz.results90,go_sem,d0,d1]
  ·exact ⟨(HB2.out.setCell (p:=⟨w.heap.size,0,none⟩) (aN) _).setCell (p:=⟨w.heap.size,1,none⟩) (aN) _,.inr ⟨aL,l,A',c',hr,rfl,HN.out,fun ad e=>by have:=HF.out ad e;have:=HZ.out;omega⟩⟩
def agR (w:World) (F:Fp) (ge:Nat) (c:Cf) (s:Sd) (r:Rc) (n:Nat) (now:Int) (R:Sum Nat (Nat × List Nk)) (e:Ending) (w':World):Prop:=
 (∃er:Nat,R= .inl er∧e=raise er∧Below w.heap.size w w')∨
 (∃Q:Nat × List Nk,R= .inr Q∧e= .returned (.tuple #[.slice none 0 0,.int .i64 (dB c s now (Q.1:Nat) Q.2).2])∧Lh w F ge c (dB c s now (Q.1:Nat) Q.2).1 r n w')
section
variable {w:World} {gs gr ge n K:Nat} {c:Cf} {s:Sd} {r:Rc} {Fs Fr:Nat→Prop} {F:Fp}
theorem Lh.since {w W w':World} {ge n:Nat} {c:Cf} {s:Sd} {r:Rc} {F:Fp} (h:Lh W F ge c s r n w') (hb:Below w.heap.size w W):Lh w F ge c s r n w':=
 let ⟨F',a1,a2,ab,a3⟩:=h
 ⟨F',a1,fun k hk=>(a2 k hk).imp id fun e=>Nat.le_trans hb.size e,ab,(Kept.dD hb).trans a3⟩
theorem xL.drew' {w:World} {Fs:Nat→Prop} {g:Nat} {c:Cf} {s:Sd} (h:xL w Fs g c s):xL w.drew Fs g c s:=h.stay fun _ _=>rfl
theorem uT.drew' {w:World} {Fr:Nat→Prop} {g n:Nat} {c:Cf} {r:Rc} (h:uT w Fr g n c r):uT w.drew Fr g n c r:=h.stay fun _ _=>rfl
set_option maxRecDepth 100000 in
set_option maxHeartbeats 1000000 in
theorem Ia (h:kY w F ge c s r n) (ho:dZ c s K) (hK:K≤90000) (now:Int) (eP:now≤9223372036854775807) (A:Option Addr) (m cc:Nat) (bs:List UInt8) (hs:Sl w w.heap.size A m cc (bO bs)) (hsm:m≤1000000):
 Calls Tryz.prog 56 #[.pointer (some ⟨ge,0,none⟩),.int .i64 now,.slice A m cc] w (agR w F ge c s r n now (oU bs)):=by
 have hB0:=(Below.refl w.heap.size w).alloc (aN) (.cells #[.slice A m cc] 31);have hcall:=Ka w.heap.size A m cc bs _ (au.new w 31 #[.slice A m cc]) ((hs.below hB0).more hB0.size) hsm;have HZ:=ah (show (w.alloc (.cells #[.slice A m cc] 31)).heap.size=w.heap.size+1 by simp);have HLT:=ah h.lt;have Gy:=ah hcall;have HB0:=ah hB0;have HE:=ah h;clear hcall hB0 hs h;go_enter Tryz.func56,Tryz.ntmps56;go_wp2_with fail;refine Gy.out.mono ?_;rintro e1 w1 ⟨hk,⟨er,hr,rfl⟩|⟨aL,l,A',c',hr,rfl,hn,hfr⟩⟩
 ·have hB1:Below w.heap.size w w1:=HB0.out.trans (hk.mono (by have:=HZ.out;omega));have HR:=ah hr;clear hr;go_wp2_with fail;exact ⟨rfl,.inl ⟨er,HR.out,rfl,hB1⟩⟩
 ·have hB1:Below w.heap.size w w1:=HB0.out.trans (hk.mono (by have:=HZ.out;omega));obtain ⟨W,hW⟩:∃W,w1.alloc (.cells #[.int .i64 aL,.slice A' l.length c'] 133)=W:=⟨_,rfl⟩
  have hB2:Below w.heap.size w W:=by rw[←hW];exact hB1.alloc hB1.size _
  have hE2:=HE.out.below hB2;have bs2:au W w1.heap.size 133 #[.int .i64 aL,.slice A' l.length c']:=by rw[←hW];exact au.new w1 _ _
  have hn2:bM W A' l.length c' l:=by rw[←hW];exact hn.alloc _
  obtain ⟨gs,gr,Fs,Fr,h1,h2,h3,h4,h5,h6,hF⟩:=id hE2;have x0:=h1.cell 0;have y0:=bs2.cell 0;have y1:=bs2.cell 1;simp at x0 y0 y1;have ME:W.drew.cell? ⟨ge,0,none⟩=some (.pointer (some ⟨gs,0,none⟩)):=x0;have y0':W.drew.cell? ⟨w1.heap.size,0,none⟩=some (.int .i64 aL):=y0;have y1':W.drew.cell? ⟨w1.heap.size,1,none⟩=some (.slice A' l.length c'):=y1;have hst:=J8 (w:=W.drew) h2.drew' ho hK now (aL:Int) eP A' l.length c' l (hn2.drewN 1) (fun ad e _ hf=>by
   have h7:=hfr ad e;have h8:=HLT.out ad.block ((hF.1 ad.block).2 (.inr (.inl hf)));have:=HZ.out;omega)
  have HST:=ah hst;have HS:=ah (fun w' (hG:NN W.drew Fs gs c (dB c s now (aL:Int) l).1 w')=>kY.snd (w:=W.drew) h1 h2.drew' h3.drew' h4 h5 h6 hF hG);have HB2:=ah hB2;have HR:=ah hr;clear hk hB1 hB2 hE2 bs2 hn2 h1 h2 h3 h4 h5 h6 hF hst hfr hn HE hr;go_upto_region 2 with fail
  clear hW
  go_region_law (go_simp;(with_reducible refine HST.out.mono ?_);rintro e4 w4 ⟨rfl,hG4⟩)
  all_goals
   have Ro:=HS.out _ hG4;have Vv:=ah Ro;clear Ro hG4;go_wp2_with fail;refine bodyPost_ret (v:= .tuple #[.slice none 0 0,.int .i64 (dB c s now (aL:Int) l).2]) ?_ rfl ?_
   ·simp[results,Tryz.results56,go_sem,Act.put]
   ·exact .inr ⟨(aL,l),HR.out,rfl,Vv.out.since HB2.out.drew⟩
end
end
section
open Go.RowKit Go.Shelf
attribute [local go_sem] Oper.semAt_some
theorem Ib {w:World} {Fr:Nat→Prop} {g n:Nat} {c:Cf} {r:Rc} (h:uT w Fr g n c r) (ho:uU c r) (hn:n<maxLen) (now:Int) (eP:now≤9223372036854775807) (A:Option Addr) (l cp:Nat) (bs:List UInt8) (hA:∀W,Kept (fun k _=>Fr k) w W→Sl W W.heap.size A l cp (bO bs)) (hsm:l≤1000000):
 Calls Tryz.prog 57 #[.pointer (some ⟨g,0,none⟩),.int .i64 now,.slice A l cp] w fun e w'=>∃v n' F' T,e= .returned (.tuple #[v,.int .i64 ((jH c r now bs).2.2:Nat)])∧n'≤n+1∧
  uT w' F' g n' c (jH c r now bs).1∧bW w Fr F'∧Kept (fun k _=>Fr k) w w'∧fT w' w.heap.size T v (jH c r now bs).2.1∧∀k,F' k↔T k≠0:=by
 obtain ⟨T,M,vo,h,hF⟩:=h;refine (EJ h ho.ok ho.cf hn now eP A l cp bs (fun W hk=>hA W (hk.mono fun k o hm=>(hF k).2 hm)) hsm).mono ?_;rintro e w' ⟨T',AV,v,n',rfl,hR,hn',hT,hK,hO⟩;refine ⟨v,n',_,T',rfl,hn',uT.of hR,fun k hk=> ?_,hK.mono fun k o hm=>(hF k).2 hm,hO,fun k=>Iff.rfl⟩;rcases Nat.lt_or_ge k w.heap.size with hl|hl
 ·have hk2:T' k≠0:=hk;rw[hT k hl] at hk2;exact .inl ((hF k).2 hk2)
 ·exact .inr hl
structure Un (w:World) (F F':Fp) (ge:Nat) (c:Cf) (s:Sd) (r:Rc) (n:Nat) (x:Value) (W:World):Prop where
 en:kY W F' ge c s r n
 gr:∀k,F' k→F k∨w.heap.size<k
 bs:∀k,F'.b k→F.b k∨w.heap.size<k
 kp:Kept (fun k o=>(F k∧(U8 o→F.b k))∨w.heap.size≤k) w W
 bx:au W w.heap.size 53 #[x]
 lt:∀k,F k→k<w.heap.size
section
variable {w W W':World} {ge n n2:Nat} {c:Cf} {s s2:Sd} {r r2:Rc} {F F':Fp} {x:Value}
theorem wu.acB (h:wu w F F' ge c s r n x W) (F2:Fp) (a1:kY W' F2 ge c s2 r2 n2) (a2:bW W F' F2) (ab:bW W F'.b F2.b) (a3:Kept (fun k o=>F' k∧(U8 o→F'.b k)) W W'):Un w F F2 ge c s2 r2 n2 x W':=by
 have hb:=h.bx.lt;refine ⟨a1,fun k hk=> ?_,fun k hk=> ?_,h.kp.trans (a3.mono fun k o hk=> ?_),(iN a3 hb fun _ e=>h.nbx e.1).trans h.bx,h.lt⟩
 ·rcases a2 k hk with e|e
  ·exact h.gr k e
  ·exact .inr (by omega)
 ·rcases ab k hk with e|e
  ·exact .inl (h.bs k e)
  ·exact .inr (by omega)
 ·rcases h.gr k hk.1 with e|e
  ·exact .inl ⟨e,fun u=>h.bs k (hk.2 u)⟩
  ·exact .inr (by omega)
theorem Un.nbx (h:Un w F F' ge c s r n x W):¬F' w.heap.size:=fun e=>by
 rcases h.gr _ e with e|e
 ·have:=h.lt _ e;omega
 ·omega
theorem Un.put (h:Un w F F' ge c s r n x W) (u:Value):Un w F F' ge c s r n u (W.setCell ⟨w.heap.size,0,none⟩ u):=
 ⟨h.en.stay fun k hk=>Below.heap_setCell _ _ _ _ fun e=>h.nbx (by rw[←show k=w.heap.size from e];exact hk),h.gr,h.bs,h.kp.setCell (p:=⟨w.heap.size,0,none⟩) (fun _ _=> .inr (aN)) u,by simpa using h.bx.av 0 u,h.lt⟩
theorem wu.v (h:wu w F F' ge c s r n x W):Un w F F' ge c s r n x W:=⟨h.en,h.gr,fun k e=> .inl (h.bs k e),h.kp,h.bx,h.lt⟩
structure BQ (w:World) (F F':Fp) (ge:Nat) (c:Cf) (s:Sd) (r:Rc) (n:Nat) (w':World):Prop where
 en:kY w' F' ge c s r n
 gr:bW w F F'
 gb:bW w F.b F'.b
 kp:Kept (fun k o=>F k∧(U8 o→F.b k)) w w'
theorem Un.done (h:Un w F F' ge c s r n x W):BQ w F F' ge c s r n W:=
 ⟨h.en,fun k hk=>(h.gr k hk).imp id fun e=>by omega,fun k hk=>(h.bs k hk).imp id fun e=>by omega,h.kp.fE fun k o ho hk=>by
  rcases hk with e|e
  ·exact e
  ·have:=lt_of_heap ho;omega⟩
theorem fT.put {T:Nat→Nat} {base g i:Nat} {t:TypeId} {v u:Value} {cs:Array Value} {outs:List (List UInt8)} (h:fT W base T v outs) (b:au W g t cs) (h1:31≠t) (h2:5≠t):fT (W.setCell ⟨g,i,none⟩ u) base T v outs:=by
 obtain ⟨vs,k1,k2,k3⟩:=h;exact ⟨vs,aI k1 b h1 u,k2,fun i q hi=>by
  obtain ⟨vi,e1,e2,e3⟩:=k3 i q hi;exact ⟨vi,e1,aI e2 b h2 u,e3⟩⟩
theorem kY.agU {w w':World} {gs gr ge n n':Nat} {c:Cf} {s:Sd} {r r':Rc} {Fs Fr Yo:Nat→Prop} {F:Fp} (h1:au w ge 52 #[.pointer (some ⟨gs,0,none⟩),.pointer (some ⟨gr,0,none⟩)]) (h2:xL w Fs gs c s) (_h3:uT w Fr gr n c r) (h4:∀k,Fs k→¬Fr k) (h5:¬Fs ge) (h6:¬Fr ge) (hF:Uk F ge Fs Fr) (a1:uT w' Yo gr n' c r') (a2:bW w Fr Yo) (a3:Kept (fun k _=>Fr k) w w'):
 kY w' ⟨fun k=>k=ge∨Fs k∨Yo k,Yo⟩ ge c s r' n'∧bW w F (fun k=>k=ge∨Fs k∨Yo k)∧bW w F.b Yo∧Kept (fun k o=>F k∧(U8 o→F.b k)) w w':=by
 refine ⟨⟨gs,gr,Fs,Yo,(iN a3 h1.lt fun _=>h6).trans h1,h2.stay fun k hk=>iN a3 (h2.lt k hk) fun _ e=>h4 k hk e,a1,fun k hk hk2=> ?_,h5,fun e=> ?_,fun _=>Iff.rfl,fun _=>Iff.rfl⟩,fun k hk=> ?_,fun k hk=> ?_,a3.mono fun k _ e=>⟨(hF.1 k).2 (.inr (.inr e)),fun _=>(hF.2 k).2 e⟩⟩
 ·rcases a2 k hk2 with e|e
  ·exact h4 k hk e
  ·have:=h2.lt k hk;omega
 ·rcases a2 ge e with e|e
  ·exact h6 e
  ·have:=h1.lt;omega
 ·rcases hk with e|e|e
  ·exact .inl ((hF.1 k).2 (.inl e))
  ·exact .inl ((hF.1 k).2 (.inr (.inl e)))
  ·rcases a2 k e with e|e
   ·exact .inl ((hF.1 k).2 (.inr (.inr e)))
   ·exact .inr e
 ·rcases a2 k hk with e|e
  ·exact .inl ((hF.2 k).2 e)
  ·exact .inr e
def agV (w:World) (F:Fp) (ge:Nat) (c:Cf) (n:Nat) (R:Sd × Rc × List (List UInt8) × Int) (e:Ending) (w':World):Prop:=
 ∃v n' F' T,e= .returned (.tuple #[v,.int .i64 R.2.2.2])∧n'≤n+1∧BQ w F F' ge c R.1 R.2.1 n' w'∧fT w' w.heap.size T v R.2.2.1∧(∀k,F'.b k→T k≠0)∧∀k,v.ownBlock=some k→¬F' k
end
section
variable {w:World} {gs gr ge n K:Nat} {c:Cf} {s:Sd} {r:Rc} {Fs Fr:Nat→Prop} {F:Fp}
theorem uX {Q:Ending→World→Prop} (W:World) (b:Nat) (v x:Value) (T:Array Value) (h6:T[6]? =some v) (h7:T[7]? =some (.pointer (some ⟨b,0,none⟩))) (he:au W b 53 #[x]) (hQ:Q (.returned (.tuple #[v,x])) W):
 bodyPostD Tryz.prog Tryz.f19 Q .ret {tmps:=T,defers:= [{target:= .fn (.func 49) #[],args:= #[.pointer (some ⟨b,0,none⟩)]}]} W:=by
 refine leaves_cons (f:=49) (args:= #[.pointer (some ⟨b,0,none⟩)]) (by simp) (by simp[go_sem]) ?_;refine (ko _ _).mono ?_;rintro e9 u9 w9 ⟨rfl,rfl,rfl⟩;have c0:=he.cell 0;simp at c0;exact ⟨.tuple #[v,x],by simp[results,Tryz.results19,go_sem,h6,h7,c0],hQ⟩
theorem Aw {Q:Ending→World→Prop} (W:World) (b:Nat) (v x:Value) (er:Int) (T:Array Value) (h6:T[6]? =some v) (h7:T[7]? =some (.pointer (some ⟨b,0,none⟩))) (he:au W b 53 #[x]) (hQ:Q (.returned (.tuple #[v,.int .i64 er])) (W.setCell ⟨b,0,none⟩ (.int .i64 er))):
 bodyPostD Tryz.prog Tryz.f19 Q (.panic [{v:= .iface 53 (.int .i64 er),recovered:=false}]) {tmps:=T,defers:= [{target:= .fn (.func 49) #[],args:= #[.pointer (some ⟨b,0,none⟩)]}]} W:=by
 refine leaves_cons (f:=49) (args:= #[.pointer (some ⟨b,0,none⟩)]) (by simp) (by simp[go_sem]) ?_;refine (iZ _ er _ W he).mono ?_;rintro e u' w'' ⟨rfl,rfl,rfl⟩;have c0:=(he.av 0 (.int .i64 er)).cell 0;simp at c0;exact ⟨.tuple #[v,.int .i64 er],by simp[results,Tryz.results19,go_sem,h6,h7,c0],hQ⟩
set_option maxRecDepth 100000 in
set_option maxHeartbeats 1000000 in
theorem EO (h:kY w F ge c s r n) (ho:dZ c s K) (hK:K≤90000) (hr:uU c r) (hn:n<maxLen) (now:Int) (eP:now≤9223372036854775807) (A:Option Addr) (m cc:Nat) (bs:List UInt8)
 (hs:∀W,Kept (fun k o=>F k∧(U8 o→F.b k)) w W→Sl W W.heap.size A m cc (bO bs)) (hsm:m≤1000000):
 Calls Tryz.prog 19 #[.pointer (some ⟨ge,0,none⟩),.int .i64 now,.slice A m cc] w (agV w F ge c n (dX c s r now bs)):=by
 have hs0:=hs w (Kept.refl _ _);have hlen:bs.length=m:=by simpa using hs0.len
 have hE:=wu.start h (.int .i64 0);obtain ⟨gs,gr,Fs,Fr,h1,h2,h3,h4,h5,h6,hF⟩:=id hE.en;have x0:=h1.cell 0;have x1:=h1.cell 1;simp at x0 x1;have HN:=ah (jv h1);have HE:=ah hE;have HS:=ah hs;cases bs with
 |nil=>
  obtain rfl:m=0:=by simpa using hlen.symm
  have Li:=wu.start h (.int .i64 5);have c0:=hE.bx.cell 0;have f0:=hE.bx.frozen 0;have c3:=Li.bx.cell 0;simp at c0 c3;have hR:dX c s r now []=(s,r,[],5):=rfl;rw[hR];clear h ho hr hR hs hs0 hE h1 h2 h3 h4 h5 h6 hF
  go_enter_defers Tryz.func19,Tryz.ntmps19
  go_wp2_with (go_at_call 48;refine HN.out.mono ?_;rintro e1 w1 ⟨rfl,rfl⟩);exact ⟨.tuple #[.slice none 0 0,.int .i64 5],by simp[results,Tryz.results19,go_sem],_,n,F,fun _=>1,rfl,by omega,Li.v.done,fT.nil _ _ _,fun k _=>by simp,fun k e=>by cases e⟩
 |cons b t=>
  obtain ⟨m,rfl⟩:∃k,m=k+1:=⟨m-1,by simp at hlen;omega⟩
  obtain ⟨ad,rfl,Bh,hcl⟩:=hs0.at_ (by omega);have hb0:w.cell? ad=some (.int .u8 b.toNat):=by have:=hcl 0 (bv b) (by simp[bO]);simpa[Addr.add,bv] using this
  have hmn:((m:Int)+1==0)=false:=by simp;omega
  by_cases hlo:b.toNat<128
  ·have hq:(b.toNat:Int)/128=0:=by omega
   obtain ⟨W,hW⟩:∃W,(w.alloc (.cells #[.int .i64 0] 53)).alloc (.cells #[.func (.func 56) #[.pointer (some ⟨ge,0,none⟩)] #[],.func (.func 57) #[.pointer (some ⟨gr,0,none⟩)] #[]] 97)=W:=⟨_,rfl⟩
   have hB:Below w.heap.size w W:=by rw[←hW];exact ((Below.refl _ w).alloc (aN) _).alloc (by simp) _
   have Y9:wu w F F ge c s r n (.int .i64 0) W:=by rw[←hW];exact hE.more ((Below.refl _ _).alloc (aN) _)
   have hsl:Sl W W.heap.size (some ad) (m+1) cc (bO (b::t)):=HS.out W (Kept.dD hB);have agW:W.cell? ad=some (.int .u8 b.toNat):=(hB.cell Bh).trans hb0;have bfn:au W (w.heap.size+1) 97 #[.func (.func 56) #[.pointer (some ⟨ge,0,none⟩)] #[],.func (.func 57) #[.pointer (some ⟨gr,0,none⟩)] #[]]:=by
    rw[←hW];have:=au.new (w.alloc (.cells #[.int .i64 0] 53)) 97 #[.func (.func 56) #[.pointer (some ⟨ge,0,none⟩)] #[],.func (.func 57) #[.pointer (some ⟨gr,0,none⟩)] #[]];rw[World.size_alloc] at this;exact this
   have bf0:=bfn.cell 0;simp only[List.getElem?_toArray,List.getElem?_cons_zero] at bf0;have hrep:=Ia Y9.en ho hK now eP (some ad) (m+1) cc (b::t) hsl hsm;have Qm:=ah hrep;have HEW:=ah Y9;have Za:dX c s r now (b::t)=match oU (b::t) with
    | .inl er=>(s,r,[],(er:Nat))
    | .inr R=>((dB c s now (R.1:Nat) R.2).1,r,[],(dB c s now (R.1:Nat) R.2).2):=by
    unfold dX;rw[if_neg (by simp),if_pos (show ((b::t).headD 0).toNat<128 from hlo)]
    all_goals (cases oU (b::t)<;>rfl)
   obtain ⟨RR,hRR⟩:∃RR,dX c s r now (b::t)=RR:=⟨_,rfl⟩
   rw[hRR];rw[hRR] at Za;have Yf:=ah Za;clear h ho hr hs hs0 hE h1 h2 h3 h4 h5 h6 hF hB Y9 hsl hrep Za hRR HE HS hcl hlen
   go_enter_defers Tryz.func19,Tryz.ntmps19
   go_wp2_with (go_at_call 48;refine HN.out.mono ?_;rintro e1 w1 ⟨rfl,rfl⟩);refine Qm.out.mono ?_;rintro e5 w5 (⟨er,hd,rfl,hb5⟩|⟨Q,hd,rfl,hG⟩)
   ·have hRR:=Yf.out;rw[hd] at hRR;dsimp only at hRR;subst hRR;exact Aw _ _ _ _ (er:Int) _ rfl rfl (HEW.out.more hb5).bx ⟨_,n,F,fun _=>1,rfl,by omega,((HEW.out.more hb5).put _).v.done,fT.nil _ _ _,fun _ _=>by simp,fun k e=>by cases e⟩
   ·have hRR:=Yf.out;rw[hd] at hRR;dsimp only at hRR;subst hRR;obtain ⟨F2,hE2⟩:=HEW.out.call hG;have c5:=hE2.bx.cell 0;have f5:=hE2.bx.frozen 0;simp at c5;have HE3:=ah (hE2.put (.int .i64 (dB c s now (Q.1:Nat) Q.2).2));clear hE2 hG hd;go_wp2_with fail;exact uX _ _ _ _ _ rfl rfl HE3.out.bx ⟨_,n,F2,fun _=>1,rfl,by omega,HE3.out.v.done,fT.nil _ _ _,fun _ _=>by simp,fun k e=>by cases e⟩
  ·have hbl:=b.toNat_lt;have hq:(b.toNat:Int)/128=1:=by omega
   obtain ⟨W,hW⟩:∃W,(w.alloc (.cells #[.int .i64 0] 53)).alloc (.cells #[.func (.func 56) #[.pointer (some ⟨ge,0,none⟩)] #[],.func (.func 57) #[.pointer (some ⟨gr,0,none⟩)] #[]] 97)=W:=⟨_,rfl⟩
   have hB:Below w.heap.size w W:=by rw[←hW];exact ((Below.refl _ w).alloc (aN) _).alloc (by simp) _
   have Y9:wu w F F ge c s r n (.int .i64 0) W:=by rw[←hW];exact hE.more ((Below.refl _ _).alloc (aN) _)
   have hsl:Sl W W.heap.size (some ad) (m+1) cc (bO (b::t)):=HS.out W (Kept.dD hB);have hBW:Below (w.alloc (.cells #[.int .i64 0] 53)).heap.size (w.alloc (.cells #[.int .i64 0] 53)) W:=by rw[←hW];exact (Below.refl _ _).alloc (aN) _
   have agW:W.cell? ad=some (.int .u8 b.toNat):=(hB.cell Bh).trans hb0;have bfn:au W (w.heap.size+1) 97 #[.func (.func 56) #[.pointer (some ⟨ge,0,none⟩)] #[],.func (.func 57) #[.pointer (some ⟨gr,0,none⟩)] #[]]:=by
    rw[←hW];have:=au.new (w.alloc (.cells #[.int .i64 0] 53)) 97 #[.func (.func 56) #[.pointer (some ⟨ge,0,none⟩)] #[],.func (.func 57) #[.pointer (some ⟨gr,0,none⟩)] #[]];rw[World.size_alloc] at this;exact this
   have QU:=bfn.cell 1;simp only[List.getElem?_toArray,List.getElem?_cons_succ,List.getElem?_cons_zero] at QU;have hrc:=Ib (h3.below hBW) hr hn now eP (some ad) (m+1) cc (b::t) (fun W2 hk=>HS.out W2 ((Kept.dD hB).trans (hk.mono fun k o hf=>⟨(hF.1 k).2 (.inr (.inr hf)),fun _=>(hF.2 k).2 hf⟩))) hsm;have acD:=ah hrc;have HGE:=ah (show ge<W.heap.size from (h1.below hBW h1.lt).lt);have HFS:=ah (fun k hk=>show k<W.heap.size from (h2.below hBW).lt k hk);have K8:=ah (fun (w5:World) (n':Nat) (F':Nat→Prop) (a1:uT w5 F' gr n' c (jH c r now (b::t)).1) (a2:bW W Fr F') (a3:Kept (fun k _=>Fr k) W w5)=>kY.agU (h1.below hBW h1.lt) (h2.below hBW) (h3.below hBW) h4 h5 h6 hF a1 a2 a3);have HEW:=ah Y9;have HZ:=ah hB.size;have Za:dX c s r now (b::t)=(s,(jH c r now (b::t)).1,(jH c r now (b::t)).2.1,(((jH c r now (b::t)).2.2:Nat):Int)):=by
    unfold dX;rw[if_neg (by simp),if_neg (show ¬((b::t).headD 0).toNat<128 from hlo)]
   rw[Za];obtain ⟨RR,hRR⟩:∃RR,jH c r now (b::t)=RR:=⟨_,rfl⟩
   rw[hRR] at acD K8 ⊢;clear h ho hr hs hs0 hE h1 h2 h3 h4 h5 h6 hF hB Y9 hrc Za hRR HE HS hcl hlen bfn hBW
   go_enter_defers Tryz.func19,Tryz.ntmps19
   go_wp2_with (go_at_call 48;refine HN.out.mono ?_;rintro e1 w1 ⟨rfl,rfl⟩);refine acD.out.mono ?_;rintro e5 w5 ⟨v5,n5,F5,T5,rfl,hn5,rE,tH,KF,E8,E9⟩;obtain ⟨q1,q2,q3,q4⟩:=K8.out w5 n5 F5 rE tH KF;have hV:=HEW.out.acB _ q1 q2 q3 q4;have c5:=hV.bx.cell 0;have f5:=hV.bx.frozen 0;simp at c5;have HV:=ah (hV.put (.int .i64 (RR.2.2:Nat)));have HO:=ah ((E8.put (i:=0) (u:= .int .i64 (RR.2.2:Nat)) hV.bx (by decide) (by decide)).wD HZ.out);have HT:=ah E9;have hnv:∀k,v5.ownBlock=some k→¬(k=ge∨Fs k∨F5 k):=fun k hk e=>by
    obtain ⟨vs,o1,o2,_⟩:=E8;have h9:=(o1.lt k hk).1;rcases e with e|e|e
    ·have:=HGE.out;omega
    ·have:=HFS.out k e;omega
    ·exact (E9 k).1 e (o2 k hk)
   have HNV:=ah hnv;clear hnv hV q1 q2 q3 q4 E8 E9 rE tH KF;go_wp2_with fail;exact uX _ _ _ _ _ rfl rfl HV.out.bx ⟨_,n5,_,T5,rfl,hn5,HV.out.done,HO.out,fun k hk=>(HT.out k).1 hk,HNV.out⟩
end
end
section
open Go.RowKit Go.Shelf
theorem wB {W:World} {base n:Nat} {v:Value} {xs:List Value} (h:W.ownsRow base 5 1 v n xs) {j:Nat} (hj:v.ownBlock=some j):∃cs fr,W.heap[j]? =some (.cells cs 5 fr):=by
 rcases h.2 with ⟨rfl,_⟩|⟨q,cap,cur,rfl,q1,q2,_⟩
 ·cases hj
 ·have e2:q=j:=by injection hj
  subst e2;exact ⟨_,_,q2⟩
structure Two (w0:World) (ga gb:Nat) (c:Cf) (sa:Sd) (ra:Rc) (na:Nat) (sb:Sd) (rb:Rc) (nb:Nat) (Fa Fb:Fp) (W:World):Prop where
 xO:Below w0.heap.size w0 W
 ea:kY W Fa ga c sa ra na
 eb:kY W Fb gb c sb rb nb
 fa:∀k,Fa k→w0.heap.size≤k∧¬Fb k
 fb:∀k,Fb k→w0.heap.size≤k
def NP (W w0:World) (Fa Fb:Fp) (v:Value) (q:List UInt8):Prop:=W.ownsRow w0.heap.size 5 1 v q.length (bO q)∧∀k,v.ownBlock=some k→¬Fa.b k∧¬Fb.b k
def QE (W w0:World) (Fa Fb:Fp) (v:Value) (vs:List Value) (l:List (List UInt8)):Prop:=
 W.ownsRow w0.heap.size 31 1 v l.length vs∧(∀k,v.ownBlock=some k→¬Fa k∧¬Fb k)∧∀(i:Nat) (q:List UInt8),l[i]? =some q→∃vi,vs[i]? =some vi∧NP W w0 Fa Fb vi q
section
variable {w0 W W':World} {ga gb na nb na' K:Nat} {c:Cf} {sa sb s:Sd} {ra rb r:Rc} {Fa Fb Ay:Fp} {v:Value} {q:List UInt8} {vs:List Value} {l:List (List UInt8)}
theorem Two.swap (h:Two w0 ga gb c sa ra na sb rb nb Fa Fb W):Two w0 gb ga c sb rb nb sa ra na Fb Fa W:=
 ⟨h.xO,h.eb,h.ea,fun k hk=>⟨h.fb k hk,fun e=>(h.fa k e).2 hk⟩,fun k hk=>(h.fa k hk).1⟩
theorem Two.below (h:Two w0 ga gb c sa ra na sb rb nb Fa Fb W) (hb:Below W.heap.size W W'):Two w0 ga gb c sa ra na sb rb nb Fa Fb W':=
 ⟨h.xO.trans (hb.mono h.xO.size),h.ea.below hb,h.eb.below hb,h.fa,h.fb⟩
theorem Two.call (h:Two w0 ga gb c sa ra na sb rb nb Fa Fb W) (hR:BQ W Fa Ay ga c s r na' W'):Two w0 ga gb c s r na' sb rb nb Ay Fb W':=by
 have hz:=h.xO.size;refine ⟨h.xO.trans (hR.kp.below (fun k _ e=>(h.fa k e.1).1) hz),hR.en,h.eb.stay fun k hk=>iN hR.kp (h.eb.lt k hk) fun o e=>(h.fa k e.1).2 hk,fun k hk=> ?_,h.fb⟩;rcases hR.gr k hk with e|e
 ·exact h.fa k e
 ·exact ⟨by omega,fun e2=>by have:=h.eb.lt k e2;omega⟩
theorem NP.swap (h:NP W w0 Fa Fb v q):NP W w0 Fb Fa v q:=⟨h.1,fun k hk=>(h.2 k hk).symm⟩
theorem NP.call (h:NP W w0 Fa Fb v q) (hR:BQ W Fa Ay ga c s r na' W'):NP W' w0 Ay Fb v q:=by
 refine ⟨bX h.1 fun k hk=> ?_,fun k hk=>⟨fun e=> ?_,(h.2 k hk).2⟩⟩
 ·obtain ⟨cs,fr,hc⟩:=wB h.1 hk;exact (hR.kp.same _ _ hc fun e=>(h.2 k hk).1 (e.2 ⟨cs,fr,rfl⟩)).trans hc.symm
 ·rcases hR.gb k e with e|e
  ·exact (h.2 k hk).1 e
  ·have:=(h.1.lt k hk).2;omega
theorem NP.sl (h:NP W w0 Fa Fb v q):∃A cc,v= .slice A q.length cc∧Sl W W.heap.size A q.length cc (bO q):=by
 obtain ⟨A,cc,e,hs,_⟩:=bq h.1;exact ⟨A,cc,e,hs⟩
theorem QE.swap (h:QE W w0 Fa Fb v vs l):QE W w0 Fb Fa v vs l:=⟨h.1,fun k hk=>(h.2.1 k hk).symm,fun i q hi=>let ⟨vi,e,hb⟩:=h.2.2 i q hi;⟨vi,e,hb.swap⟩⟩
theorem QE.call (h:QE W w0 Fa Fb v vs l) (hR:BQ W Fa Ay ga c s r na' W'):QE W' w0 Ay Fb v vs l:=by
 refine ⟨bX h.1 fun k hk=>iN hR.kp (h.1.lt k hk).2 fun o e=>(h.2.1 k hk).1 e.1,fun k hk=>⟨fun e=> ?_,(h.2.1 k hk).2⟩,fun i q hi=>let ⟨vi,e,hb⟩:=h.2.2 i q hi;⟨vi,e,hb.call hR⟩⟩;rcases hR.gr k e with e|e
 ·exact (h.2.1 k hk).1 e
 ·have:=(h.1.lt k hk).2;omega
theorem Lh.toR (h:Lh W Fa ga c s r na' W'):∃Ay,BQ W Fa Ay ga c s r na' W'∧∀k,Ay.b k→Fa.b k:=by
 obtain ⟨F',a1,a2,ab,a3⟩:=h;exact ⟨F',⟨a1,a2,fun k hk=> .inl (ab k hk),a3⟩,ab⟩
theorem Az (h:Two w0 ga gb c sa ra na sb rb nb Fa Fb W) (ho:dZ c sa K) {A:Option Addr} {m cc:Nat} {x:List UInt8} (hx:Sl W W.heap.size A m cc (bO x)):
 Calls Tryz.prog 21 #[.pointer (some ⟨ga,0,none⟩),.slice A m cc] W fun e W'=>∃Ay,e= .returned (.int .i64 (dw c sa x).2)∧BQ W Fa Ay ga c (dw c sa x).1 ra na W':=by
 refine (Hy h.ea ho hx).mono ?_;rintro e W' ⟨rfl,hG⟩;obtain ⟨Ay,hR,_⟩:=hG.toR;exact ⟨Ay,rfl,hR⟩
theorem Dp (h:Two w0 ga gb c sa ra na sb rb nb Fa Fb W) (ho:dZ c sa K) (hK:K≤80000) (hr:uU c ra) (now N:Int) (eP:now≤9223372036854775807) (hN:N≤9223372036854775807):
 Calls Tryz.prog 18 #[.pointer (some ⟨ga,0,none⟩),.int .i64 now,.int .i64 N] W fun e W'=>∃v Ay,e= .returned (.tuple #[v,.int .i64 (dK c sa ra now N).2.2.2])∧BQ W Fa Ay ga c (dK c sa ra now N).1 (dK c sa ra now N).2.1 na W'∧NP W' w0 Ay Fb v (dK c sa ra now N).2.2.1:=by
 refine (J9 h.ea ho hK hr now N eP hN).mono ?_;rintro e W' ⟨v,rfl,hv,hG⟩;obtain ⟨Ay,hR,hb⟩:=hG.toR;refine ⟨v,Ay,rfl,hR,aU hv h.xO.size,fun k hk=> ?_⟩;have h9:=(hv.lt k hk).1;exact ⟨fun e=>by have:=h.ea.lt k (h.ea.Yj k (hb k e));omega,fun e=>by have:=h.eb.lt k (h.eb.Yj k e);omega⟩
theorem wX (h:Two w0 ga gb c sa ra na sb rb nb Fa Fb W) (ho:dZ c sa K) (hK:K≤90000) (hr:uU c ra) (hn:na<maxLen) (now:Int) (eP:now≤9223372036854775807) (A:Option Addr) (m cc:Nat) (bs:List UInt8)
 (hs:∀W2,Kept (fun k o=>Fa k∧(U8 o→Fa.b k)) W W2→Sl W2 W2.heap.size A m cc (bO bs)) (hsm:m≤1000000):
 Calls Tryz.prog 19 #[.pointer (some ⟨ga,0,none⟩),.int .i64 now,.slice A m cc] W fun e W'=>∃v vs na' Ay,e= .returned (.tuple #[v,.int .i64 (dX c sa ra now bs).2.2.2])∧na'≤na+1∧BQ W Fa Ay ga c (dX c sa ra now bs).1 (dX c sa ra now bs).2.1 na' W'∧QE W' w0 Ay Fb v vs (dX c sa ra now bs).2.2.1:=by
 refine (EO h.ea ho hK hr hn now eP A m cc bs hs hsm).mono ?_;rintro e W' ⟨v,n',F',T,rfl,hn',hR,⟨vs,o1,o2,o3⟩,hT,hV⟩;refine ⟨v,vs,n',F',rfl,hn',hR,aU o1 h.xO.size,fun k hk=>⟨hV k hk,fun e=> ?_⟩,fun i q hi=> ?_⟩
 ·have h9:=(o1.lt k hk).1;have:=h.eb.lt k e;omega
 ·obtain ⟨vi,e1,e2,e3⟩:=o3 i q hi;refine ⟨vi,e1,aU e2 h.xO.size,fun k hk=>⟨fun e=>hT k e (e3 k hk),fun e=> ?_⟩⟩;have h9:=(e2.lt k hk).1;have:=h.eb.lt k (h.eb.Yj k e);omega
end
end
section
open Go.RowKit Go.Shelf
def Dq (W:World) (base:Nat) (B:Nat→Prop) (v:Value) (l:List (List UInt8)) (vs:List Value):Prop:=
 W.ownsRow base 31 1 v l.length vs∧∀(i:Nat) (q:List UInt8),l[i]? =some q→∃vi,vs[i]? =some vi∧W.ownsRow base 5 1 vi q.length (bO q)∧∀k,vi.ownBlock=some k→¬B k
section
variable {w0 W W':World} {base:Nat} {B B':Nat→Prop} {v:Value} {l:List (List UInt8)} {vs:List Value}
theorem Dq.nil (W:World) (base:Nat) (B:Nat→Prop):Dq W base B (.slice none 0 0) [] []:=⟨World.ownsRow_nil _ _ _ _,fun i q h=>(by simp at h)⟩
theorem Dq.stay (h:Dq W base B v l vs) (hr:∀k,v.ownBlock=some k→W'.heap[k]? =W.heap[k]?) (hu:∀(k:Nat) (cs:Array Value) (fr:Nat × Nat),¬B k→W.heap[k]? =some (Obj.cells cs 5 fr)→W'.heap[k]? =W.heap[k]?) (hB:∀k,k<W.heap.size→B' k→B k):Dq W' base B' v l vs:=
 ⟨bX h.1 hr,fun i q hi=>by
  obtain ⟨vi,e,ho,hb⟩:=h.2 i q hi;exact ⟨vi,e,bX ho fun k hk=>by obtain ⟨cs,fr,hc⟩:=wB ho hk;exact hu k cs fr (hb k hk) hc,fun k hk hk2=>hb k hk (hB k (ho.lt k hk).2 hk2)⟩⟩
end
section
variable {w0 W W':World} {sw:Bool} {g ga gb na nb na':Nat} {c:Cf} {a b:En} {s:Sd} {r:Rc} {Fa Fb Ay:Fp} {v0 v1 u0 u1:Value} {now:Int}
theorem Ni {n:Nat} {v:Value} {vs:List Value} {base:Nat} (h:W.ownsRow base 31 1 v n vs):∀k,v.ownBlock=some k→base≤k∧∃(cs:Array Value) (fr:Nat × Nat),W.heap[k]? =some (Obj.cells cs 31 fr):=fun k hk=>by
 rcases h.2 with ⟨rfl,_⟩|⟨q,cap,cur,rfl,q1,q2,_⟩
 ·cases hk
 ·have e2:q=k:=by injection hk
  subst e2;exact ⟨q1,_,_,q2⟩
end
section
variable {w0 W W':World} {sw:Bool} {g ga gb na nb na':Nat} {c:Cf} {a b:En} {s:Sd} {r:Rc} {Fa Fb Ay:Fp} {v0 v1 u0 u1:Value} {now:Int}
end
end
end Go.Proofs.YtbhiklnljiehiaaGreat
