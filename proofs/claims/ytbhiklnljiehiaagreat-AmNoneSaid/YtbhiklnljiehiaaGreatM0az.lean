/- am: report. law37, plain: a link of two entities. am: Receive. law37: num, same, lists, few. law37: two entities apart. law37: works: the examples, computed. am: methods of no entity. -/
import Derived.Test.YtbhiklnljiehiaaGreatM0ae
import Derived.Test.YtbhiklnljiehiaaGreatM0ai
import Derived.Test.YtbhiklnljiehiaaGreatM0an
import Derived.Test.YtbhiklnljiehiaaGreatM0ay
import Derived.BigQuiet
import Derived.Deep.RegionHeld3
import Derived.Deep.RegionLaw
import Derived.Lib.BytesEntry
import Derived.Lib.SlBytesConst
namespace Go.Proofs.YtbhiklnljiehiaaGreat
section
open Go.RowKit Go.Shelf
attribute [local go_sem] Oper.semAt_some
theorem FW {bs:List UInt8} {aK er:Nat}:∀(f:Nat) (more:Bool) (pos:Nat) (acc:List Nk),oC bs aK f more pos acc= .inl er→er=5∨er=9
 |0,false,_,_,h=>by simp[oC] at h
 |_+1,false,_,_,h=>by simp[oC] at h
 |0,true,_,_,h=>by simp[oC] at h;omega
 |f+1,true,pos,acc,h=>by
  rw[oC] at h;split at h
  ·cases h;exact .inl rfl
  ·split at h
   ·exact FW f _ _ _ h
   ·cases h;exact .inr rfl
theorem N9 {bs:List UInt8} {er:Nat} (h:oD bs= .inl er):er=5∨er=9:=by
 unfold oD at h;split at h
 ·cases h;exact .inl rfl
 split at h
 ·cases h;exact .inr rfl
 split at h
 ·cases h;exact FW _ _ _ _ (by assumption)
 ·split at h
  ·cases h
  ·cases h;exact .inr rfl
theorem DN (b:Nat) (A:Option Addr) (n cc:Nat) (bs:List UInt8) (w:World) (hb:au w b 31 #[.slice A n cc]) (hs:Sl w w.heap.size A n cc (bV bs)) (hsm:n≤1000000):
 Calls Tryz.prog 91 #[.pointer (some ⟨b,0,none⟩)] w (GK w (oD bs)):=by
 have hB0:=(Below.refl w.heap.size w).alloc (Nat.le_refl _) (.cells #[.int .i64 0,.slice none 0 0] 133);have hcall:=ES A n cc bs _ ((hs.below hB0).more hB0.size) hsm;have b0:=au.new w 133 #[.int .i64 0,.slice none 0 0];have x0:=(hb.alloc (.cells #[.int .i64 0,.slice none 0 0] 133)).cell 0;simp at x0;have BK:=Lib.hid hcall;have HB0:=Lib.hid hB0;have B0:=Lib.hid b0;clear hcall hB0 hb hs b0;go_enter Tryz.func91,Tryz.ntmps91;go_wp2_with fail;refine BK.out.mono ?_;rintro e1 w1 ⟨hk,⟨er,hr,rfl⟩|⟨aK,l,A',c',hr,rfl,hn,hfr⟩⟩
 ·have b1:=B0.out.below hk B0.out.lt;have c0:=b1.cell 0;have c1:=b1.cell 1;have f0:=b1.frozen 0;have f1:=b1.frozen 1;have b2:=(b1.av 0 (.int .i64 0)).av 1 (.slice none 0 0);simp at b2;have d0:=b2.cell 0;have d1:=b2.cell 1;simp at c0 c1 d0 d1;have HK:=Lib.hid hk;have HZ:=Lib.hid (show w.heap.size≤(w.alloc (.cells #[.int .i64 0,.slice none 0 0] 133)).heap.size by simp);clear hk b1 b2;go_wp2_with fail;refine bodyPost_ret (v:= .tuple #[.agg #[.int .i64 0,.slice none 0 0],.int .i64 er]) ?_ rfl ?_
  ·simp[results,Tryz.results91,go_sem,d0,d1]
  ·exact ⟨((HB0.out.trans (HK.out.mono HZ.out)).setCell (p:=⟨w.heap.size,0,none⟩) (Nat.le_refl _) _).setCell (p:=⟨w.heap.size,1,none⟩) (Nat.le_refl _) _,.inl ⟨er,hr,rfl⟩⟩
 ·have b1:=B0.out.below hk B0.out.lt;have c0:=b1.cell 0;have c1:=b1.cell 1;have f0:=b1.frozen 0;have f1:=b1.frozen 1;have b2:=(b1.av 0 (.int .i64 aK)).av 1 (.slice A' l.length c');simp at b2;have d0:=b2.cell 0;have d1:=b2.cell 1;simp at c0 c1 d0 d1;have HK:=Lib.hid hk;have HZ:=Lib.hid (show (w.alloc (.cells #[.int .i64 0,.slice none 0 0] 133)).heap.size=w.heap.size+1 by simp);have hn2:bI ((w1.setCell ⟨w.heap.size,0,none⟩ (.int .i64 aK)).setCell ⟨w.heap.size,1,none⟩ (.slice A' l.length c')) A' l.length c' l:=
   have hne:∀ad,A'=some ad→ad.block≠w.heap.size:=fun ad e=>by have:=hfr ad e;have:=HZ.out;omega
   (hn.oM hne _).oM hne _
  have HN:=Lib.hid hn2;have HF:=Lib.hid hfr;clear hk b1 b2 hn hn2 hfr;go_wp2_with fail;refine bodyPost_ret (v:= .tuple #[.agg #[.int .i64 aK,.slice A' l.length c'],.int .i64 0]) ?_ rfl ?_
  ·simp[results,Tryz.results91,go_sem,d0,d1]
  ·exact ⟨((HB0.out.trans (HK.out.mono (by have:=HZ.out;omega))).setCell (p:=⟨w.heap.size,0,none⟩) (Nat.le_refl _) _).setCell (p:=⟨w.heap.size,1,none⟩) (Nat.le_refl _) _,.inr ⟨aK,l,A',c',hr,rfl,HN.out,fun ad e=>by have:=HF.out ad e;have:=HZ.out;omega⟩⟩
def Z9 (w:World) (R:Sum Nat (Nat × List Nk)) (e:Ending) (w':World):Prop:=
 Below w.heap.size w w'∧((∃er:Nat,R= .inl er∧e=raise er)∨
  (∃(aK:Nat) (l:List Nk) (A:Option Addr) (c:Nat),R= .inr (aK,l)∧e= .returned (.agg #[.int .i64 aK,.slice A l.length c])∧bI w' A l.length c l∧∀ad,A=some ad→w.heap.size≤ad.block))
set_option maxRecDepth 100000 in
theorem IK (b:Nat) (A:Option Addr) (n cc:Nat) (bs:List UInt8) (w:World) (hb:au w b 31 #[.slice A n cc]) (hs:Sl w w.heap.size A n cc (bV bs)) (hsm:n≤1000000):
 Calls Tryz.prog 90 #[.func (.func 91) #[] #[.pointer (some ⟨b,0,none⟩)]] w (Z9 w (oD bs)):=by
 have hB0:=(Below.refl w.heap.size w).alloc (Nat.le_refl _) (.cells #[.int .i64 0,.slice none 0 0] 133);have hcall:=DN b A n cc bs _ (hb.alloc (.cells #[.int .i64 0,.slice none 0 0] 133)) ((hs.below hB0).more hB0.size) hsm;have b0:=au.new w 133 #[.int .i64 0,.slice none 0 0];have HZ:=Lib.hid (show (w.alloc (.cells #[.int .i64 0,.slice none 0 0] 133)).heap.size=w.heap.size+1 by simp);have HER:=Lib.hid (fun er=> @N9 bs er);have BK:=Lib.hid hcall;have HB0:=Lib.hid hB0;have B0:=Lib.hid b0;clear hcall hB0 hb hs b0;go_enter Tryz.func90,Tryz.ntmps90;go_wp2_with fail;refine BK.out.mono ?_;rintro e1 w1 ⟨hk,⟨er,hr,rfl⟩|⟨aK,l,A',c',hr,rfl,hn,hfr⟩⟩
 ·have hB1:Below w.heap.size w w1:=HB0.out.trans (hk.mono (by have:=HZ.out;omega));have KZ:((er:Int) !=0)=true:=by rcases HER.out er hr with e|e<;>subst e<;>rfl
  have hB2:=(hB1.alloc hB1.size (.cells #[.int .i64 0,.slice none 0 0] 133)).alloc (by have:=hB1.size;simp;omega) (.cells #[.int .i64 er] 53);have hbe:=au.new (w1.alloc (.cells #[.int .i64 0,.slice none 0 0] 133)) 53 #[.int .i64 er];rw[World.size_alloc] at hbe;have HM:=Lib.hid (ol (w1.heap.size+1) (er:Int) KZ _ hbe);clear hbe;have HB2:=Lib.hid hB2;have HR:=Lib.hid hr;clear hk hB1 hB2 KZ hr;go_wp2_with (go_at_call 50;refine HM.out.mono ?_;rintro e2 w2 ⟨rfl,rfl⟩);exact ⟨rfl,HB2.out,.inl ⟨er,HR.out,rfl⟩⟩
 ·have hB1:Below w.heap.size w w1:=HB0.out.trans (hk.mono (by have:=HZ.out;omega));have b1:=B0.out.below hk B0.out.lt;have hB2:=(hB1.alloc hB1.size (.cells #[.int .i64 aK,.slice A' l.length c'] 133)).alloc (by have:=hB1.size;simp;omega) (.cells #[.int .i64 0] 53);have b2:=(b1.alloc (.cells #[.int .i64 aK,.slice A' l.length c'] 133)).alloc (.cells #[.int .i64 0] 53);have hn2:=(hn.alloc (.cells #[.int .i64 aK,.slice A' l.length c'] 133)).alloc (.cells #[.int .i64 0] 53);have hbe:=au.new (w1.alloc (.cells #[.int .i64 aK,.slice A' l.length c'] 133)) 53 #[.int .i64 0];rw[World.size_alloc] at hbe;have HM:=Lib.hid (nD (w1.heap.size+1) _ hbe);clear hbe;have q1:=(au.new w1 133 #[.int .i64 aK,.slice A' l.length c']).alloc (.cells #[.int .i64 0] 53);have q0:=q1.cell 0;have q0':=q1.cell 1;have c0:=b2.cell 0;have c1:=b2.cell 1;have f0:=b2.frozen 0;have f1:=b2.frozen 1;have b3:=(b2.av 0 (.int .i64 aK)).av 1 (.slice A' l.length c');simp at b3;have d0:=b3.cell 0;have d1:=b3.cell 1;simp at c0 c1 d0 d1 q0 q0';have hne:∀ad,A'=some ad→ad.block≠w.heap.size:=fun ad e=>by have:=hfr ad e;have:=HZ.out;omega
  have HN:=Lib.hid ((hn2.oM (o:=0) hne (.int .i64 aK)).oM (o:=1) hne (.slice A' l.length c'));have HB2:=Lib.hid hB2;have HF:=Lib.hid hfr;clear hk b1 b2 b3 hn hn2 hfr hB1 hB2 q1 hne;go_wp2_with (go_at_call 50;refine HM.out.mono ?_;rintro e2 w2 ⟨rfl,rfl⟩);refine bodyPost_ret (v:= .agg #[.int .i64 aK,.slice A' l.length c']) ?_ rfl ?_
  ·simp[results,Tryz.results90,go_sem,d0,d1]
  ·exact ⟨(HB2.out.setCell (p:=⟨w.heap.size,0,none⟩) (Nat.le_refl _) _).setCell (p:=⟨w.heap.size,1,none⟩) (Nat.le_refl _) _,.inr ⟨aK,l,A',c',hr,rfl,HN.out,fun ad e=>by have:=HF.out ad e;have:=HZ.out;omega⟩⟩
def aew (w:World) (F:Fp) (ge:Nat) (c:Cf) (s:Sd) (r:Rc) (n:Nat) (now:Int) (R:Sum Nat (Nat × List Nk)) (e:Ending) (w':World):Prop:=
 (∃er:Nat,R= .inl er∧e=raise er∧Below w.heap.size w w')∨
 (∃Q:Nat × List Nk,R= .inr Q∧e= .returned (.tuple #[.slice none 0 0,.int .i64 (dm c s now (Q.1:Nat) Q.2).2])∧KU w F ge c (dm c s now (Q.1:Nat) Q.2).1 r n w')
section
variable {w:World} {gs gr ge n K:Nat} {c:Cf} {s:Sd} {r:Rc} {Fs Fr:Nat→Prop} {F:Fp}
theorem KU.since {w W w':World} {ge n:Nat} {c:Cf} {s:Sd} {r:Rc} {F:Fp} (h:KU W F ge c s r n w') (hb:Below w.heap.size w W):KU w F ge c s r n w':=
 let ⟨F',a1,a2,ab,a3⟩:=h
 ⟨F',a1,fun k hk=>(a2 k hk).imp id fun e=>Nat.le_trans hb.size e,ab,(Kept.dA hb).trans a3⟩
theorem yU.drew' {w:World} {Fs:Nat→Prop} {g:Nat} {c:Cf} {s:Sd} (h:yU w Fs g c s):yU w.drew Fs g c s:=h.stay fun _ _=>rfl
theorem tT.drew' {w:World} {Fr:Nat→Prop} {g n:Nat} {c:Cf} {r:Rc} (h:tT w Fr g n c r):tT w.drew Fr g n c r:=h.stay fun _ _=>rfl
set_option maxRecDepth 100000 in
set_option maxHeartbeats 1000000 in
theorem FX (h:mH w F ge c s r n) (ho:fH c s K) (hK:K≤90000) (now:Int) (gQ:now≤9223372036854775807) (A:Option Addr) (m cc:Nat) (bs:List UInt8) (hs:Sl w w.heap.size A m cc (bV bs)) (hsm:m≤1000000):
 Calls Tryz.prog 56 #[.pointer (some ⟨ge,0,none⟩),.int .i64 now,.slice A m cc] w (aew w F ge c s r n now (oD bs)):=by
 have hB0:=(Below.refl w.heap.size w).alloc (Nat.le_refl _) (.cells #[.slice A m cc] 31);have hcall:=IK w.heap.size A m cc bs _ (au.new w 31 #[.slice A m cc]) ((hs.below hB0).more hB0.size) hsm;have HZ:=Lib.hid (show (w.alloc (.cells #[.slice A m cc] 31)).heap.size=w.heap.size+1 by simp);have HLT:=Lib.hid h.lt;have BK:=Lib.hid hcall;have HB0:=Lib.hid hB0;have HE:=Lib.hid h;clear hcall hB0 hs h;go_enter Tryz.func56,Tryz.ntmps56;go_wp2_with fail;refine BK.out.mono ?_;rintro e1 w1 ⟨hk,⟨er,hr,rfl⟩|⟨aK,l,A',c',hr,rfl,hn,hfr⟩⟩
 ·have hB1:Below w.heap.size w w1:=HB0.out.trans (hk.mono (by have:=HZ.out;omega));have HR:=Lib.hid hr;clear hr;go_wp2_with fail;exact ⟨rfl,.inl ⟨er,HR.out,rfl,hB1⟩⟩
 ·have hB1:Below w.heap.size w w1:=HB0.out.trans (hk.mono (by have:=HZ.out;omega));obtain ⟨W,hW⟩:∃W,w1.alloc (.cells #[.int .i64 aK,.slice A' l.length c'] 133)=W:=⟨_,rfl⟩
  have hB2:Below w.heap.size w W:=by rw[←hW];exact hB1.alloc hB1.size _
  have hE2:=HE.out.below hB2;have bs2:au W w1.heap.size 133 #[.int .i64 aK,.slice A' l.length c']:=by rw[←hW];exact au.new w1 _ _
  have hn2:bI W A' l.length c' l:=by rw[←hW];exact hn.alloc _
  obtain ⟨gs,gr,Fs,Fr,h1,h2,h3,h4,h5,h6,hF⟩:=id hE2;have x0:=h1.cell 0;have y0:=bs2.cell 0;have y1:=bs2.cell 1;simp at x0 y0 y1;have Nb:W.drew.cell? ⟨ge,0,none⟩=some (.pointer (some ⟨gs,0,none⟩)):=x0;have y0':W.drew.cell? ⟨w1.heap.size,0,none⟩=some (.int .i64 aK):=y0;have y1':W.drew.cell? ⟨w1.heap.size,1,none⟩=some (.slice A' l.length c'):=y1;have hst:=II (w:=W.drew) h2.drew' ho hK now (aK:Int) gQ A' l.length c' l (hn2.drewN 1) (fun ad e _ hf=>by
   have h7:=hfr ad e;have h8:=HLT.out ad.block ((hF.1 ad.block).2 (.inr (.inl hf)));have:=HZ.out;omega)
  have HST:=Lib.hid hst;have HS:=Lib.hid (fun w' (hG:NY W.drew Fs gs c (dm c s now (aK:Int) l).1 w')=>mH.snd (w:=W.drew) h1 h2.drew' h3.drew' h4 h5 h6 hF hG);have HB2:=Lib.hid hB2;have HR:=Lib.hid hr;clear hk hB1 hB2 hE2 bs2 hn2 h1 h2 h3 h4 h5 h6 hF hst hfr hn HE hr;go_upto_region 2 with fail
  clear hW
  go_region_law (go_simp;(with_reducible refine HST.out.mono ?_);rintro e4 w4 ⟨rfl,hG4⟩)
  all_goals
   have hE4:=HS.out _ hG4;have Sy:=Lib.hid hE4;clear hE4 hG4;go_wp2_with fail;refine bodyPost_ret (v:= .tuple #[.slice none 0 0,.int .i64 (dm c s now (aK:Int) l).2]) ?_ rfl ?_
   ·simp[results,Tryz.results56,go_sem,Act.put]
   ·exact .inr ⟨(aK,l),HR.out,rfl,Sy.out.since HB2.out.drew⟩
end
end
section
open Go.RowKit
def dZ (c:Cf) (s:Sd) (r:Rc) (now:Int) (x:List UInt8):Sd × Rc × List (List UInt8) × Int:=
 if x= [] then (s,r,[],5)
 else if (x.headD 0).toNat<128 then match oD x with
  | .inl er=>(s,r,[],(er:Nat))
  | .inr R=>((dm c s now (R.1:Nat) R.2).1,r,[],(dm c s now (R.1:Nat) R.2).2)
 else (s,(jr c r now x).1,(jr c r now x).2.1,((jr c r now x).2.2:Nat))
structure En where
 s:Sd
 r:Rc
 sent:List (List UInt8)
 inn:List (List UInt8)
 out:Nat
section
variable {a b:En} {G K:Nat} {c:Cf}
end
end
section
open Go.RowKit Go.Shelf
attribute [local go_sem] Oper.semAt_some
theorem FY {w:World} {Fr:Nat→Prop} {g n:Nat} {c:Cf} {r:Rc} (h:tT w Fr g n c r) (ho:vC c r) (hn:n<maxLen) (now:Int) (gQ:now≤9223372036854775807) (A:Option Addr) (l cp:Nat) (bs:List UInt8) (hA:∀W,Kept (fun k _=>Fr k) w W→Sl W W.heap.size A l cp (bV bs)) (hsm:l≤1000000):
 Calls Tryz.prog 57 #[.pointer (some ⟨g,0,none⟩),.int .i64 now,.slice A l cp] w fun e w'=>∃v n' F' T,e= .returned (.tuple #[v,.int .i64 ((jr c r now bs).2.2:Nat)])∧n'≤n+1∧
  tT w' F' g n' c (jr c r now bs).1∧bR w Fr F'∧Kept (fun k _=>Fr k) w w'∧fK w' w.heap.size T v (jr c r now bs).2.1∧∀k,F' k↔T k≠0:=by
 obtain ⟨T,M,vo,h,hF⟩:=h;refine (DF h ho.ok ho.cf hn now gQ A l cp bs (fun W hk=>hA W (hk.mono fun k o hm=>(hF k).2 hm)) hsm).mono ?_;rintro e w' ⟨T',zI,v,n',rfl,hR,hn',hT,hK,hO⟩;refine ⟨v,n',_,T',rfl,hn',tT.of hR,fun k hk=> ?_,hK.mono fun k o hm=>(hF k).2 hm,hO,fun k=>Iff.rfl⟩;rcases Nat.lt_or_ge k w.heap.size with hl|hl
 ·have hk2:T' k≠0:=hk;rw[hT k hl] at hk2;exact .inl ((hF k).2 hk2)
 ·exact .inr hl
structure Rf (w:World) (F F':Fp) (ge:Nat) (c:Cf) (s:Sd) (r:Rc) (n:Nat) (x:Value) (W:World):Prop where
 en:mH W F' ge c s r n
 gr:∀k,F' k→F k∨w.heap.size<k
 bs:∀k,F'.b k→F.b k∨w.heap.size<k
 kp:Kept (fun k o=>(F k∧(U8 o→F.b k))∨w.heap.size≤k) w W
 bx:au W w.heap.size 53 #[x]
 lt:∀k,F k→k<w.heap.size
section
variable {w W W':World} {ge n n2:Nat} {c:Cf} {s s2:Sd} {r r2:Rc} {F F':Fp} {x:Value}
theorem xk.aaa (h:xk w F F' ge c s r n x W) (F2:Fp) (a1:mH W' F2 ge c s2 r2 n2) (a2:bR W F' F2) (ab:bR W F'.b F2.b) (a3:Kept (fun k o=>F' k∧(U8 o→F'.b k)) W W'):Rf w F F2 ge c s2 r2 n2 x W':=by
 have hb:=h.bx.lt;refine ⟨a1,fun k hk=> ?_,fun k hk=> ?_,h.kp.trans (a3.mono fun k o hk=> ?_),(jA a3 hb fun _ e=>h.Z8 e.1).trans h.bx,h.lt⟩
 ·rcases a2 k hk with e|e
  ·exact h.gr k e
  ·exact .inr (by omega)
 ·rcases ab k hk with e|e
  ·exact .inl (h.bs k e)
  ·exact .inr (by omega)
 ·rcases h.gr k hk.1 with e|e
  ·exact .inl ⟨e,fun u=>h.bs k (hk.2 u)⟩
  ·exact .inr (by omega)
theorem Rf.Z8 (h:Rf w F F' ge c s r n x W):¬F' w.heap.size:=fun e=>by
 rcases h.gr _ e with e|e
 ·have:=h.lt _ e;omega
 ·omega
theorem Rf.put (h:Rf w F F' ge c s r n x W) (u:Value):Rf w F F' ge c s r n u (W.setCell ⟨w.heap.size,0,none⟩ u):=
 ⟨h.en.stay fun k hk=>Below.heap_setCell _ _ _ _ fun e=>h.Z8 (by rw[←show k=w.heap.size from e];exact hk),h.gr,h.bs,h.kp.setCell (p:=⟨w.heap.size,0,none⟩) (fun _ _=> .inr (Nat.le_refl _)) u,by simpa using h.bx.av 0 u,h.lt⟩
theorem xk.v (h:xk w F F' ge c s r n x W):Rf w F F' ge c s r n x W:=⟨h.en,h.gr,fun k e=> .inl (h.bs k e),h.kp,h.bx,h.lt⟩
structure Rh (w:World) (F F':Fp) (ge:Nat) (c:Cf) (s:Sd) (r:Rc) (n:Nat) (w':World):Prop where
 en:mH w' F' ge c s r n
 gr:bR w F F'
 gb:bR w F.b F'.b
 kp:Kept (fun k o=>F k∧(U8 o→F.b k)) w w'
theorem Rf.done (h:Rf w F F' ge c s r n x W):Rh w F F' ge c s r n W:=
 ⟨h.en,fun k hk=>(h.gr k hk).imp id fun e=>by omega,fun k hk=>(h.bs k hk).imp id fun e=>by omega,h.kp.fA fun k o ho hk=>by
  rcases hk with e|e
  ·exact e
  ·have:=lt_of_heap ho;omega⟩
theorem fK.put {T:Nat→Nat} {base g i:Nat} {t:TypeId} {v u:Value} {cs:Array Value} {outs:List (List UInt8)} (h:fK W base T v outs) (b:au W g t cs) (h1:31≠t) (h2:5≠t):fK (W.setCell ⟨g,i,none⟩ u) base T v outs:=by
 obtain ⟨vs,k1,k2,k3⟩:=h;exact ⟨vs,aJ k1 b h1 u,k2,fun i q hi=>by
  obtain ⟨vi,e1,e2,e3⟩:=k3 i q hi;exact ⟨vi,e1,aJ e2 b h2 u,e3⟩⟩
theorem mH.aey {w w':World} {gs gr ge n n':Nat} {c:Cf} {s:Sd} {r r':Rc} {Fs Fr Vy:Nat→Prop} {F:Fp} (h1:au w ge 52 #[.pointer (some ⟨gs,0,none⟩),.pointer (some ⟨gr,0,none⟩)]) (h2:yU w Fs gs c s) (_h3:tT w Fr gr n c r) (h4:∀k,Fs k→¬Fr k) (h5:¬Fs ge) (h6:¬Fr ge) (hF:Rb F ge Fs Fr) (a1:tT w' Vy gr n' c r') (a2:bR w Fr Vy) (a3:Kept (fun k _=>Fr k) w w'):
 mH w' ⟨fun k=>k=ge∨Fs k∨Vy k,Vy⟩ ge c s r' n'∧bR w F (fun k=>k=ge∨Fs k∨Vy k)∧bR w F.b Vy∧Kept (fun k o=>F k∧(U8 o→F.b k)) w w':=by
 refine ⟨⟨gs,gr,Fs,Vy,(jA a3 h1.lt fun _=>h6).trans h1,h2.stay fun k hk=>jA a3 (h2.lt k hk) fun _ e=>h4 k hk e,a1,fun k hk hk2=> ?_,h5,fun e=> ?_,fun _=>Iff.rfl,fun _=>Iff.rfl⟩,fun k hk=> ?_,fun k hk=> ?_,a3.mono fun k _ e=>⟨(hF.1 k).2 (.inr (.inr e)),fun _=>(hF.2 k).2 e⟩⟩
 ·rcases a2 k hk2 with e|e
  ·exact h4 k hk e
  ·have:=h2.lt k hk;omega
 ·rcases a2 ge e with e|e
  ·exact h6 e
  ·have:=h1.lt;omega
 ·rcases hk with e|e|e
  ·exact .inl ((hF.1 k).2 (.inl e))
  ·exact .inl ((hF.1 k).2 (.inr (.inl e)))
  ·rcases a2 k e with e|e
   ·exact .inl ((hF.1 k).2 (.inr (.inr e)))
   ·exact .inr e
 ·rcases a2 k hk with e|e
  ·exact .inl ((hF.2 k).2 e)
  ·exact .inr e
def aez (w:World) (F:Fp) (ge:Nat) (c:Cf) (n:Nat) (R:Sd × Rc × List (List UInt8) × Int) (e:Ending) (w':World):Prop:=
 ∃v n' F' T,e= .returned (.tuple #[v,.int .i64 R.2.2.2])∧n'≤n+1∧Rh w F F' ge c R.1 R.2.1 n' w'∧fK w' w.heap.size T v R.2.2.1∧(∀k,F'.b k→T k≠0)∧∀k,v.ownBlock=some k→¬F' k
end
section
variable {w:World} {gs gr ge n K:Nat} {c:Cf} {s:Sd} {r:Rc} {Fs Fr:Nat→Prop} {F:Fp}
theorem tX {Q:Ending→World→Prop} (W:World) (b:Nat) (v x:Value) (T:Array Value) (h6:T[6]? =some v) (h7:T[7]? =some (.pointer (some ⟨b,0,none⟩))) (he:au W b 53 #[x]) (hQ:Q (.returned (.tuple #[v,x])) W):
 bodyPostD Tryz.prog Tryz.f19 Q .ret {tmps:=T,defers:= [{target:= .fn (.func 49) #[],args:= #[.pointer (some ⟨b,0,none⟩)]}]} W:=by
 refine leaves_cons (f:=49) (args:= #[.pointer (some ⟨b,0,none⟩)]) (by simp) (by simp[go_sem]) ?_;refine (mF _ _).mono ?_;rintro e9 u9 w9 ⟨rfl,rfl,rfl⟩;have c0:=he.cell 0;simp at c0;exact ⟨.tuple #[v,x],by simp[results,Tryz.results19,go_sem,h6,h7,c0],hQ⟩
theorem zz {Q:Ending→World→Prop} (W:World) (b:Nat) (v x:Value) (er:Int) (T:Array Value) (h6:T[6]? =some v) (h7:T[7]? =some (.pointer (some ⟨b,0,none⟩))) (he:au W b 53 #[x]) (hQ:Q (.returned (.tuple #[v,.int .i64 er])) (W.setCell ⟨b,0,none⟩ (.int .i64 er))):
 bodyPostD Tryz.prog Tryz.f19 Q (.panic [{v:= .iface 53 (.int .i64 er),recovered:=false}]) {tmps:=T,defers:= [{target:= .fn (.func 49) #[],args:= #[.pointer (some ⟨b,0,none⟩)]}]} W:=by
 refine leaves_cons (f:=49) (args:= #[.pointer (some ⟨b,0,none⟩)]) (by simp) (by simp[go_sem]) ?_;refine (kH _ er _ W he).mono ?_;rintro e u' w'' ⟨rfl,rfl,rfl⟩;have c0:=(he.av 0 (.int .i64 er)).cell 0;simp at c0;exact ⟨.tuple #[v,.int .i64 er],by simp[results,Tryz.results19,go_sem,h6,h7,c0],hQ⟩
set_option maxRecDepth 100000 in
set_option maxHeartbeats 1000000 in
theorem DR (h:mH w F ge c s r n) (ho:fH c s K) (hK:K≤90000) (hr:vC c r) (hn:n<maxLen) (now:Int) (gQ:now≤9223372036854775807) (A:Option Addr) (m cc:Nat) (bs:List UInt8)
 (hs:∀W,Kept (fun k o=>F k∧(U8 o→F.b k)) w W→Sl W W.heap.size A m cc (bV bs)) (hsm:m≤1000000):
 Calls Tryz.prog 19 #[.pointer (some ⟨ge,0,none⟩),.int .i64 now,.slice A m cc] w (aez w F ge c n (dZ c s r now bs)):=by
 have hs0:=hs w (Kept.refl _ _);have hlen:bs.length=m:=by simpa using hs0.len
 have hE:=xk.start h (.int .i64 0);obtain ⟨gs,gr,Fs,Fr,h1,h2,h3,h4,h5,h6,hF⟩:=id hE.en;have x0:=h1.cell 0;have x1:=h1.cell 1;simp at x0 x1;have HN:=Lib.hid (nE h1);have HE:=Lib.hid hE;have HS:=Lib.hid hs;cases bs with
 |nil=>
  obtain rfl:m=0:=by simpa using hlen.symm
  have N8:=xk.start h (.int .i64 5);have c0:=hE.bx.cell 0;have f0:=hE.bx.frozen 0;have c3:=N8.bx.cell 0;simp at c0 c3;have hR:dZ c s r now []=(s,r,[],5):=rfl;rw[hR];clear h ho hr hR hs hs0 hE h1 h2 h3 h4 h5 h6 hF
  go_enter_defers Tryz.func19,Tryz.ntmps19
  go_wp2_with (go_at_call 48;refine HN.out.mono ?_;rintro e1 w1 ⟨rfl,rfl⟩);exact ⟨.tuple #[.slice none 0 0,.int .i64 5],by simp[results,Tryz.results19,go_sem],_,n,F,fun _=>1,rfl,by omega,N8.v.done,fK.nil _ _ _,fun k _=>by simp,fun k e=>by cases e⟩
 |cons b t=>
  obtain ⟨m,rfl⟩:∃k,m=k+1:=⟨m-1,by simp at hlen;omega⟩
  obtain ⟨ad,rfl,Cy,hcl⟩:=hs0.at_ (by omega);have hb0:w.cell? ad=some (.int .u8 b.toNat):=by have:=hcl 0 (bv b) (by simp[bV]);simpa[Addr.add,bv] using this
  have hmn:((m:Int)+1==0)=false:=by simp;omega
  by_cases hlo:b.toNat<128
  ·have hq:(b.toNat:Int)/128=0:=by omega
   obtain ⟨W,hW⟩:∃W,(w.alloc (.cells #[.int .i64 0] 53)).alloc (.cells #[.func (.func 56) #[.pointer (some ⟨ge,0,none⟩)] #[],.func (.func 57) #[.pointer (some ⟨gr,0,none⟩)] #[]] 97)=W:=⟨_,rfl⟩
   have hB:Below w.heap.size w W:=by rw[←hW];exact ((Below.refl _ w).alloc (Nat.le_refl _) _).alloc (by simp) _
   have Ww:xk w F F ge c s r n (.int .i64 0) W:=by rw[←hW];exact hE.more ((Below.refl _ _).alloc (Nat.le_refl _) _)
   have hsl:Sl W W.heap.size (some ad) (m+1) cc (bV (b::t)):=HS.out W (Kept.dA hB);have aeA:W.cell? ad=some (.int .u8 b.toNat):=(hB.cell Cy).trans hb0;have bfn:au W (w.heap.size+1) 97 #[.func (.func 56) #[.pointer (some ⟨ge,0,none⟩)] #[],.func (.func 57) #[.pointer (some ⟨gr,0,none⟩)] #[]]:=by
    rw[←hW];have:=au.new (w.alloc (.cells #[.int .i64 0] 53)) 97 #[.func (.func 56) #[.pointer (some ⟨ge,0,none⟩)] #[],.func (.func 57) #[.pointer (some ⟨gr,0,none⟩)] #[]];rw[World.size_alloc] at this;exact this
   have bf0:=bfn.cell 0;simp only[List.getElem?_toArray,List.getElem?_cons_zero] at bf0;have hrep:=FX Ww.en ho hK now gQ (some ad) (m+1) cc (b::t) hsl hsm;have NF:=Lib.hid hrep;have S8:=Lib.hid Ww;have Wx:dZ c s r now (b::t)=match oD (b::t) with
    | .inl er=>(s,r,[],(er:Nat))
    | .inr R=>((dm c s now (R.1:Nat) R.2).1,r,[],(dm c s now (R.1:Nat) R.2).2):=by
    unfold dZ;rw[if_neg (by simp),if_pos (show ((b::t).headD 0).toNat<128 from hlo)]
    all_goals (cases oD (b::t)<;>rfl)
   obtain ⟨RR,hRR⟩:∃RR,dZ c s r now (b::t)=RR:=⟨_,rfl⟩
   rw[hRR];rw[hRR] at Wx;have NP:=Lib.hid Wx;clear h ho hr hs hs0 hE h1 h2 h3 h4 h5 h6 hF hB Ww hsl hrep Wx hRR HE HS hcl hlen
   go_enter_defers Tryz.func19,Tryz.ntmps19
   go_wp2_with (go_at_call 48;refine HN.out.mono ?_;rintro e1 w1 ⟨rfl,rfl⟩);refine NF.out.mono ?_;rintro e5 w5 (⟨er,hd,rfl,hb5⟩|⟨Q,hd,rfl,hG⟩)
   ·have hRR:=NP.out;rw[hd] at hRR;dsimp only at hRR;subst hRR;exact zz _ _ _ _ (er:Int) _ rfl rfl (S8.out.more hb5).bx ⟨_,n,F,fun _=>1,rfl,by omega,((S8.out.more hb5).put _).v.done,fK.nil _ _ _,fun _ _=>by simp,fun k e=>by cases e⟩
   ·have hRR:=NP.out;rw[hd] at hRR;dsimp only at hRR;subst hRR;obtain ⟨F2,hE2⟩:=S8.out.call hG;have c5:=hE2.bx.cell 0;have f5:=hE2.bx.frozen 0;simp at c5;have HE3:=Lib.hid (hE2.put (.int .i64 (dm c s now (Q.1:Nat) Q.2).2));clear hE2 hG hd;go_wp2_with fail;exact tX _ _ _ _ _ rfl rfl HE3.out.bx ⟨_,n,F2,fun _=>1,rfl,by omega,HE3.out.v.done,fK.nil _ _ _,fun _ _=>by simp,fun k e=>by cases e⟩
  ·have hbl:=b.toNat_lt;have hq:(b.toNat:Int)/128=1:=by omega
   obtain ⟨W,hW⟩:∃W,(w.alloc (.cells #[.int .i64 0] 53)).alloc (.cells #[.func (.func 56) #[.pointer (some ⟨ge,0,none⟩)] #[],.func (.func 57) #[.pointer (some ⟨gr,0,none⟩)] #[]] 97)=W:=⟨_,rfl⟩
   have hB:Below w.heap.size w W:=by rw[←hW];exact ((Below.refl _ w).alloc (Nat.le_refl _) _).alloc (by simp) _
   have Ww:xk w F F ge c s r n (.int .i64 0) W:=by rw[←hW];exact hE.more ((Below.refl _ _).alloc (Nat.le_refl _) _)
   have hsl:Sl W W.heap.size (some ad) (m+1) cc (bV (b::t)):=HS.out W (Kept.dA hB);have hBW:Below (w.alloc (.cells #[.int .i64 0] 53)).heap.size (w.alloc (.cells #[.int .i64 0] 53)) W:=by rw[←hW];exact (Below.refl _ _).alloc (Nat.le_refl _) _
   have aeA:W.cell? ad=some (.int .u8 b.toNat):=(hB.cell Cy).trans hb0;have bfn:au W (w.heap.size+1) 97 #[.func (.func 56) #[.pointer (some ⟨ge,0,none⟩)] #[],.func (.func 57) #[.pointer (some ⟨gr,0,none⟩)] #[]]:=by
    rw[←hW];have:=au.new (w.alloc (.cells #[.int .i64 0] 53)) 97 #[.func (.func 56) #[.pointer (some ⟨ge,0,none⟩)] #[],.func (.func 57) #[.pointer (some ⟨gr,0,none⟩)] #[]];rw[World.size_alloc] at this;exact this
   have Oi:=bfn.cell 1;simp only[List.getElem?_toArray,List.getElem?_cons_succ,List.getElem?_cons_zero] at Oi;have hrc:=FY (h3.below hBW) hr hn now gQ (some ad) (m+1) cc (b::t) (fun W2 hk=>HS.out W2 ((Kept.dA hB).trans (hk.mono fun k o hf=>⟨(hF.1 k).2 (.inr (.inr hf)),fun _=>(hF.2 k).2 hf⟩))) hsm;have aac:=Lib.hid hrc;have HGE:=Lib.hid (show ge<W.heap.size from (h1.below hBW h1.lt).lt);have YZ:=Lib.hid (fun k hk=>show k<W.heap.size from (h2.below hBW).lt k hk);have Jo:=Lib.hid (fun (w5:World) (n':Nat) (F':Nat→Prop) (a1:tT w5 F' gr n' c (jr c r now (b::t)).1) (a2:bR W Fr F') (a3:Kept (fun k _=>Fr k) W w5)=>mH.aey (h1.below hBW h1.lt) (h2.below hBW) (h3.below hBW) h4 h5 h6 hF a1 a2 a3);have S8:=Lib.hid Ww;have HZ:=Lib.hid hB.size;have Wx:dZ c s r now (b::t)=(s,(jr c r now (b::t)).1,(jr c r now (b::t)).2.1,(((jr c r now (b::t)).2.2:Nat):Int)):=by
    unfold dZ;rw[if_neg (by simp),if_neg (show ¬((b::t).headD 0).toNat<128 from hlo)]
   rw[Wx];obtain ⟨RR,hRR⟩:∃RR,jr c r now (b::t)=RR:=⟨_,rfl⟩
   rw[hRR] at aac Jo ⊢;clear h ho hr hs hs0 hE h1 h2 h3 h4 h5 h6 hF hB Ww hrc Wx hRR HE HS hcl hlen bfn hBW
   go_enter_defers Tryz.func19,Tryz.ntmps19
   go_wp2_with (go_at_call 48;refine HN.out.mono ?_;rintro e1 w1 ⟨rfl,rfl⟩);refine aac.out.mono ?_;rintro e5 w5 ⟨v5,n5,F5,T5,rfl,Ug,oU,wQ,K6,DY,zK⟩;obtain ⟨q1,q2,q3,q4⟩:=Jo.out w5 n5 F5 oU wQ K6;have hV:=S8.out.aaa _ q1 q2 q3 q4;have c5:=hV.bx.cell 0;have f5:=hV.bx.frozen 0;simp at c5;have HV:=Lib.hid (hV.put (.int .i64 (RR.2.2:Nat)));have HO:=Lib.hid ((DY.put (i:=0) (u:= .int .i64 (RR.2.2:Nat)) hV.bx (by decide) (by decide)).vH HZ.out);have HT:=Lib.hid zK;have hnv:∀k,v5.ownBlock=some k→¬(k=ge∨Fs k∨F5 k):=fun k hk e=>by
    obtain ⟨vs,o1,o2,_⟩:=DY;have h9:=(o1.lt k hk).1;rcases e with e|e|e
    ·have:=HGE.out;omega
    ·have:=YZ.out k e;omega
    ·exact (zK k).1 e (o2 k hk)
   have HNV:=Lib.hid hnv;clear hnv hV q1 q2 q3 q4 DY zK oU wQ K6;go_wp2_with fail;exact tX _ _ _ _ _ rfl rfl HV.out.bx ⟨_,n5,_,T5,rfl,Ug,HV.out.done,HO.out,fun k hk=>(HT.out k).1 hk,HNV.out⟩
end
end
section
open Go.RowKit Go.Shelf
attribute [local go_sem] Oper.semAt_some
theorem nG (x:Int) (w:World):Calls Tryz.prog 20 #[.int .i64 x] w fun e w'=>e= .returned (.int .i64 x)∧w=w':=by
 go_enter Tryz.func20,Tryz.ntmps20;go_wp2;go_ret;exact ⟨rfl,rfl⟩
def nH (k now N:Int) (A:Option Addr) (n c:Nat):Array Value:= #[.int .i64 k,.int .i64 now,.int .i64 N,.slice A n c]
set_option maxRecDepth 100000 in
set_option maxHeartbeats 1000000 in
theorem KW (b:Nat) (k now N:Int) (A:Option Addr) (n c:Nat) (w:World) (h:au w b 46 (nH k now N A n c)) (_hn:n≤c) (_hc:c≤9223372036854775807):
 Calls Tryz.prog 17 #[.slice (some ⟨b,0,none⟩) 1 1,.int .i64 1] w fun e w'=>e= .returned (.bool (decide (n≤300)))∧w=w':=by
 have x0:w.cell? ⟨b,0,none⟩=some (.int .i64 k):=h.cell 0;have x1:w.cell? ⟨b,1,none⟩=some (.int .i64 now):=h.cell 1;have x2:w.cell? ⟨b,2,none⟩=some (.int .i64 N):=h.cell 2;have x3:w.cell? ⟨b,3,none⟩=some (.slice A n c):=h.cell 3;clear h;go_enter Tryz.func17,Tryz.ntmps17;go_wp2;go_loopg [5] 1 (fun gk s5 wr=>wr=w∧((s5= .int .i64 0∧gk=1)∨(s5= .int .i64 1∧gk=0∧n≤300)))
 case atStart=>exact ⟨rfl,.inl ⟨rfl,rfl⟩⟩
 case round=>
  obtain ⟨rfl,⟨rfl,Jr⟩|⟨rfl,Jr,hle⟩⟩:=hrel
  ·have HGK:=Lib.hid Jr;clear Jr;by_cases hl:n≤300
   ·have d1:decide ((300:Int)<(n:Int))=false:=by simp;omega
    go_wp2
    go_roundg 0
    case measure=>rw[HGK.out];omega
    case rel=>exact ⟨rfl,.inr ⟨by go_num,rfl,hl⟩⟩
   ·have d1:decide ((300:Int)<(n:Int))=true:=by simp;omega
    have d2:decide (n≤300)=false:=by simp;omega
    have D2:=Lib.hid d2;clear d2 hl;go_wp2;go_ret;exact ⟨by rw[D2.out];rfl,rfl⟩
  ·have d2:decide (n≤300)=true:=by simpa using hle
   have D2:=Lib.hid d2;clear d2 hle;go_wp2;go_ret;exact ⟨by rw[D2.out];rfl,rfl⟩
end
section
open Go.RowKit Go.Shelf
theorem Cg {W:World} {base n:Nat} {v:Value} {xs:List Value} (h:W.ownsRow base 5 1 v n xs) {j:Nat} (hj:v.ownBlock=some j):∃cs fr,W.heap[j]? =some (.cells cs 5 fr):=by
 rcases h.2 with ⟨rfl,_⟩|⟨q,cap,cur,rfl,q1,q2,_⟩
 ·cases hj
 ·have e2:q=j:=by injection hj
  subst e2;exact ⟨_,_,q2⟩
structure Two (w0:World) (ga gb:Nat) (c:Cf) (sa:Sd) (ra:Rc) (na:Nat) (sb:Sd) (rb:Rc) (nb:Nat) (Fa Fb:Fp) (W:World):Prop where
 Jw:Below w0.heap.size w0 W
 ea:mH W Fa ga c sa ra na
 eb:mH W Fb gb c sb rb nb
 fa:∀k,Fa k→w0.heap.size≤k∧¬Fb k
 fb:∀k,Fb k→w0.heap.size≤k
def FZ (W w0:World) (Fa Fb:Fp) (v:Value) (q:List UInt8):Prop:=W.ownsRow w0.heap.size 5 1 v q.length (bV q)∧∀k,v.ownBlock=some k→¬Fa.b k∧¬Fb.b k
def OJ (W w0:World) (Fa Fb:Fp) (v:Value) (vs:List Value) (l:List (List UInt8)):Prop:=
 W.ownsRow w0.heap.size 31 1 v l.length vs∧(∀k,v.ownBlock=some k→¬Fa k∧¬Fb k)∧∀(i:Nat) (q:List UInt8),l[i]? =some q→∃vi,vs[i]? =some vi∧FZ W w0 Fa Fb vi q
section
variable {w0 W W':World} {ga gb na nb na' K:Nat} {c:Cf} {sa sb s:Sd} {ra rb r:Rc} {Fa Fb AL:Fp} {v:Value} {q:List UInt8} {vs:List Value} {l:List (List UInt8)}
theorem Two.swap (h:Two w0 ga gb c sa ra na sb rb nb Fa Fb W):Two w0 gb ga c sb rb nb sa ra na Fb Fa W:=
 ⟨h.Jw,h.eb,h.ea,fun k hk=>⟨h.fb k hk,fun e=>(h.fa k e).2 hk⟩,fun k hk=>(h.fa k hk).1⟩
theorem Two.below (h:Two w0 ga gb c sa ra na sb rb nb Fa Fb W) (hb:Below W.heap.size W W'):Two w0 ga gb c sa ra na sb rb nb Fa Fb W':=
 ⟨h.Jw.trans (hb.mono h.Jw.size),h.ea.below hb,h.eb.below hb,h.fa,h.fb⟩
theorem Two.call (h:Two w0 ga gb c sa ra na sb rb nb Fa Fb W) (hR:Rh W Fa AL ga c s r na' W'):Two w0 ga gb c s r na' sb rb nb AL Fb W':=by
 have hz:=h.Jw.size;refine ⟨h.Jw.trans (hR.kp.below (fun k _ e=>(h.fa k e.1).1) hz),hR.en,h.eb.stay fun k hk=>jA hR.kp (h.eb.lt k hk) fun o e=>(h.fa k e.1).2 hk,fun k hk=> ?_,h.fb⟩;rcases hR.gr k hk with e|e
 ·exact h.fa k e
 ·exact ⟨by omega,fun e2=>by have:=h.eb.lt k e2;omega⟩
theorem FZ.swap (h:FZ W w0 Fa Fb v q):FZ W w0 Fb Fa v q:=⟨h.1,fun k hk=>(h.2 k hk).symm⟩
theorem FZ.below (h:FZ W w0 Fa Fb v q) (hb:Below W.heap.size W W'):FZ W' w0 Fa Fb v q:=⟨own_below h.1 hb (Nat.le_refl _),h.2⟩
theorem FZ.call (h:FZ W w0 Fa Fb v q) (hR:Rh W Fa AL ga c s r na' W'):FZ W' w0 AL Fb v q:=by
 refine ⟨cO h.1 fun k hk=> ?_,fun k hk=>⟨fun e=> ?_,(h.2 k hk).2⟩⟩
 ·obtain ⟨cs,fr,hc⟩:=Cg h.1 hk;exact (hR.kp.same _ _ hc fun e=>(h.2 k hk).1 (e.2 ⟨cs,fr,rfl⟩)).trans hc.symm
 ·rcases hR.gb k e with e|e
  ·exact (h.2 k hk).1 e
  ·have:=(h.1.lt k hk).2;omega
theorem FZ.sl (h:FZ W w0 Fa Fb v q):∃A cc,v= .slice A q.length cc∧Sl W W.heap.size A q.length cc (bV q):=by
 obtain ⟨A,cc,e,hs,_⟩:=aZ h.1;exact ⟨A,cc,e,hs⟩
theorem OJ.swap (h:OJ W w0 Fa Fb v vs l):OJ W w0 Fb Fa v vs l:=⟨h.1,fun k hk=>(h.2.1 k hk).symm,fun i q hi=>let ⟨vi,e,hb⟩:=h.2.2 i q hi;⟨vi,e,hb.swap⟩⟩
theorem OJ.below (h:OJ W w0 Fa Fb v vs l) (hb:Below W.heap.size W W'):OJ W' w0 Fa Fb v vs l:=⟨own_below h.1 hb (Nat.le_refl _),h.2.1,fun i q hi=>let ⟨vi,e,hq⟩:=h.2.2 i q hi;⟨vi,e,hq.below hb⟩⟩
theorem OJ.call (h:OJ W w0 Fa Fb v vs l) (hR:Rh W Fa AL ga c s r na' W'):OJ W' w0 AL Fb v vs l:=by
 refine ⟨cO h.1 fun k hk=>jA hR.kp (h.1.lt k hk).2 fun o e=>(h.2.1 k hk).1 e.1,fun k hk=>⟨fun e=> ?_,(h.2.1 k hk).2⟩,fun i q hi=>let ⟨vi,e,hb⟩:=h.2.2 i q hi;⟨vi,e,hb.call hR⟩⟩;rcases hR.gr k e with e|e
 ·exact (h.2.1 k hk).1 e
 ·have:=(h.1.lt k hk).2;omega
theorem KU.toR (h:KU W Fa ga c s r na' W'):∃AL,Rh W Fa AL ga c s r na' W'∧∀k,AL.b k→Fa.b k:=by
 obtain ⟨F',a1,a2,ab,a3⟩:=h;exact ⟨F',⟨a1,a2,fun k hk=> .inl (ab k hk),a3⟩,ab⟩
theorem IP (h:Two w0 ga gb c sa ra na sb rb nb Fa Fb W) (ho:fH c sa K) {A:Option Addr} {m cc:Nat} {x:List UInt8} (hx:Sl W W.heap.size A m cc (bV x)):
 Calls Tryz.prog 21 #[.pointer (some ⟨ga,0,none⟩),.slice A m cc] W fun e W'=>∃AL,e= .returned (.int .i64 (cZ c sa x).2)∧Rh W Fa AL ga c (cZ c sa x).1 ra na W':=by
 refine (FU h.ea ho hx).mono ?_;rintro e W' ⟨rfl,hG⟩;obtain ⟨AL,hR,_⟩:=hG.toR;exact ⟨AL,rfl,hR⟩
theorem Ch (h:Two w0 ga gb c sa ra na sb rb nb Fa Fb W) (ho:fH c sa K) (hK:K≤80000) (hr:vC c ra) (now N:Int) (gQ:now≤9223372036854775807) (hN:N≤9223372036854775807):
 Calls Tryz.prog 18 #[.pointer (some ⟨ga,0,none⟩),.int .i64 now,.int .i64 N] W fun e W'=>∃v AL,e= .returned (.tuple #[v,.int .i64 (dV c sa ra now N).2.2.2])∧Rh W Fa AL ga c (dV c sa ra now N).1 (dV c sa ra now N).2.1 na W'∧FZ W' w0 AL Fb v (dV c sa ra now N).2.2.1:=by
 refine (IJ h.ea ho hK hr now N gQ hN).mono ?_;rintro e W' ⟨v,rfl,hv,hG⟩;obtain ⟨AL,hR,hb⟩:=hG.toR;refine ⟨v,AL,rfl,hR,aR hv h.Jw.size,fun k hk=> ?_⟩;have h9:=(hv.lt k hk).1;exact ⟨fun e=>by have:=h.ea.lt k (h.ea.Vt k (hb k e));omega,fun e=>by have:=h.eb.lt k (h.eb.Vt k e);omega⟩
theorem ko (h:Two w0 ga gb c sa ra na sb rb nb Fa Fb W) (ho:fH c sa K) (hK:K≤90000) (hr:vC c ra) (hn:na<maxLen) (now:Int) (gQ:now≤9223372036854775807) (A:Option Addr) (m cc:Nat) (bs:List UInt8)
 (hs:∀W2,Kept (fun k o=>Fa k∧(U8 o→Fa.b k)) W W2→Sl W2 W2.heap.size A m cc (bV bs)) (hsm:m≤1000000):
 Calls Tryz.prog 19 #[.pointer (some ⟨ga,0,none⟩),.int .i64 now,.slice A m cc] W fun e W'=>∃v vs na' AL,e= .returned (.tuple #[v,.int .i64 (dZ c sa ra now bs).2.2.2])∧na'≤na+1∧Rh W Fa AL ga c (dZ c sa ra now bs).1 (dZ c sa ra now bs).2.1 na' W'∧OJ W' w0 AL Fb v vs (dZ c sa ra now bs).2.2.1:=by
 refine (DR h.ea ho hK hr hn now gQ A m cc bs hs hsm).mono ?_;rintro e W' ⟨v,n',F',T,rfl,hn',hR,⟨vs,o1,o2,o3⟩,hT,hV⟩;refine ⟨v,vs,n',F',rfl,hn',hR,aR o1 h.Jw.size,fun k hk=>⟨hV k hk,fun e=> ?_⟩,fun i q hi=> ?_⟩
 ·have h9:=(o1.lt k hk).1;have:=h.eb.lt k e;omega
 ·obtain ⟨vi,e1,e2,e3⟩:=o3 i q hi;refine ⟨vi,e1,aR e2 h.Jw.size,fun k hk=>⟨fun e=>hT k e (e3 k hk),fun e=> ?_⟩⟩;have h9:=(e2.lt k hk).1;have:=h.eb.lt k (h.eb.Vt k e);omega
theorem FZ.arg (h:FZ W w0 Fa Fb v q) {A:Option Addr} {n cc:Nat} (e:v= .slice A n cc):∀W2,Kept (fun k o=>Fa k∧(U8 o→Fa.b k)) W W2→Sl W2 W2.heap.size A n cc (bV q):=by
 intro W2 hk;have h2:W2.ownsRow w0.heap.size 5 1 v q.length (bV q):=cO h.1 fun k hk2=>by
  obtain ⟨cs,fr,hc⟩:=Cg h.1 hk2;exact (hk.same _ _ hc fun e=>(h.2 k hk2).1 (e.2 ⟨cs,fr,rfl⟩)).trans hc.symm
 subst e;obtain ⟨A',c',e',hs,_⟩:=aZ h2;cases e';exact hs
end
end
section
open Go.RowKit Go.Shelf
attribute [local go_sem] Oper.semAt_some
theorem fH.mono {c:Cf} {s:Sd} {K K':Nat} (h:fH c s K) (hk:K≤K'):fH c s K':=⟨h.cf,h.inv,h.bnd.mono hk⟩
theorem IQ {c:Cf} {s:Sd} {r:Rc} {K:Nat} (ho:fH c s K) (hr:vC c r) {now:Int} (hn:now≤9223372036854775807) (n:Int):fH c (dV c s r now n).1 (K+6)∧vC c (dV c s r now n).2.1:=by
 have ht:=ho.tick now hn;unfold dV;split
 ·exact ⟨ho.mono (by omega),hr⟩
 split
 ·exact ⟨ho.mono (by omega),hr⟩
 split
 ·exact ⟨ht.mono (by omega),hr⟩
 split
 ·exact ⟨ht.mono (by omega),(hr.goes hn).pK hn n⟩
 ·exact ⟨(ht.pK now n hn).mono (by omega),hr.goes hn⟩
theorem nI {c:Cf} {s:Sd} {r:Rc} {K:Nat} (ho:fH c s K) (hr:vC c r) {now:Int} (hn:now≤9223372036854775807) (x:List UInt8):fH c (dZ c s r now x).1 (K+3)∧vC c (dZ c s r now x).2.1:=by
 unfold dZ;split
 ·exact ⟨ho.mono (by omega),hr⟩
 split
 ·split
  ·exact ⟨ho.mono (by omega),hr⟩
  ·exact ⟨ho.status now _ _ hn,hr⟩
 ·exact ⟨ho.mono (by omega),hr.recv hn x⟩
theorem KX {a0 a1 a2 a3 a4 a5 a6:Int} (h:dK a0 a1 a2 a3 a4 a5 a6=true):Wl (vw a0 a1 a2 a3 a4 a5 a6):=by
 unfold dK at h;simp only[Bool.and_eq_true] at h;obtain ⟨_,_,_,h4,_,_⟩:=h;have q3:=iY h4 a3 (by simp);have q4:=iY h4 a4 (by simp);exact ⟨q3.1,q3.2,q4.1,q4.2⟩
theorem tY {a0 a1 a2 a3 a4 a5 a6:Int} (h:dK a0 a1 a2 a3 a4 a5 a6=true):fH (vw a0 a1 a2 a3 a4 a5 a6) dB 0:=⟨Fe h,oL.new,jk.new⟩
theorem xq {a0 a1 a2 a3 a4 a5 a6:Int} (h:dK a0 a1 a2 a3 a4 a5 a6=true):vC (vw a0 a1 a2 a3 a4 a5 a6) iN:=⟨KX h,FO.1,FO.2⟩
def kc:Cf:=vw 0 0 10 0 0 1 1000
def k1:Sd:=(cZ kc dB [104,105]).1
theorem ko1:(cZ kc dB [104,105]).2=0:=by decide+kernel
def k2:Sd × Rc × List UInt8 × Int:=dV kc k1 iN 0 9
theorem ko2:k2.2.2=([160,0,104,105],0):=by decide+kernel
def k3:Sd × Rc × List (List UInt8) × Int:=dZ kc dB iN 0 [160,0,104,105]
theorem ko3:k3.2.2=([[104,105]],0):=by decide+kernel
theorem ko4:qG k3.2.1 0=true:=by decide+kernel
def k5:Sd × Rc × List UInt8 × Int:=dV kc k3.1 k3.2.1 0 9
theorem ko5:k5.2.2=([0,4],0):=by decide+kernel
def k6:Sd × Rc × List (List UInt8) × Int:=dZ kc k2.1 k2.2.1 0 [0,4]
theorem ko6:k6.2.2=([],0):=by decide+kernel
def k7:Sd × Rc × List (List UInt8) × Int:=dZ kc k6.1 k6.2.1 0 []
theorem ko7:k7.2.2=([],5):=by decide+kernel
def k8:Sd × Rc × List (List UInt8) × Int:=dZ kc k7.1 k7.2.1 0 [128]
theorem ko8:k8.2.2=([],5):=by decide+kernel
def k9:Sd × Rc × List (List UInt8) × Int:=dZ kc k8.1 k8.2.1 0 [0,20]
theorem ko9:k9.2.2=([],6):=by decide+kernel
theorem aeB:k9.1.done=1:=by decide+kernel
theorem kR:dK 0 0 10 0 0 1 1000=true:=by decide
theorem aad:fH kc k1 0:=(tY kR).qR _
theorem Ri:fH kc k2.1 6∧vC kc k2.2.1:=IQ aad (xq kR) (by decide) 9
theorem aae:fH kc k3.1 3∧vC kc k3.2.1:=nI (tY kR) (xq kR) (by decide) _
theorem Rj:fH kc k6.1 9∧vC kc k6.2.1:=nI Ri.1 Ri.2 (by decide) _
theorem Rk:fH kc k7.1 12∧vC kc k7.2.1:=nI Rj.1 Rj.2 (by decide) _
theorem Rl:fH kc k8.1 15∧vC kc k8.2.1:=nI Rk.1 Rk.2 (by decide) _
theorem aeC:fH kc k9.1 18∧vC kc k9.2.1:=nI Rl.1 Rl.2 (by decide) _
theorem Oa (W:World) (l:List UInt8) (hl:l.length≤1000) (fr:Nat × Nat):Sl (W.alloc (.cells (bV l).toArray 5 fr)) (W.alloc (.cells (bV l).toArray 5 fr)).heap.size (some ⟨W.heap.size,0,none⟩) l.length l.length (bV l):=by
 have:=uF (mR W (.cells (bV l).toArray 5 fr)) (xs:=bV l) (by simp) (by simp;omega);simpa using this
theorem Jy {W:World} {F:Fp} (hF:∀k,F k→k<W.heap.size) (l:List UInt8) (hl:l.length≤1000):∀W2,Kept (fun k o=>F k∧(U8 o→F.b k)) (W.alloc (.cells (bV l).toArray 5)) W2→Sl W2 W2.heap.size (some ⟨W.heap.size,0,none⟩) l.length l.length (bV l):=by
 intro W2 hk;have hb0:=au.new W 5 (bV l).toArray;have hb:au W2 W.heap.size 5 (bV l).toArray:=(jA hk hb0.lt fun o e=>by have:=hF _ e.1;omega).trans hb0;exact ⟨by simp,Nat.le_refl _,by omega,fun h0=>⟨_,rfl,hb.lt,fun j u hu=>by
  rw[Addr.add_lit,Nat.zero_add];exact (hb.cell j).trans (by simpa using hu)⟩⟩
theorem Vz (W:World):Sl W W.heap.size none 0 0 (bV []):=⟨rfl,Nat.le_refl _,by omega,fun h=>by omega⟩
set_option maxRecDepth 100000 in
set_option maxHeartbeats 4000000 in
theorem qf (w:World):Calls Tryz.prog 10 #[] w fun e w'=>e= .returned (.bool true)∧Below w.heap.size w w':=by
 have hN0:=KV 0 0 10 0 0 1 1000;unfold vW at hN0;have HN:=Lib.hid hN0;clear hN0;have kcv:=fun (w:World) (C:Array Value) (n c:Nat)=>Lib.run_convert_bytes_const (P:=Tryz.prog) w 31 5 C n c und29 und5
 go_enter Tryz.func10,Tryz.ntmps10;go_wp2_with fail;have HB0:=Lib.hid ((Below.refl _ w).alloc (Nat.le_refl _) (.cells #[.int .i64 0,.int .i64 0,.int .i64 10,.int .i64 0,.int .i64 0,.int .i64 1,.int .i64 1000] 23));have YD:=Lib.hid (au.new w 23 #[.int .i64 0,.int .i64 0,.int .i64 10,.int .i64 0,.int .i64 0,.int .i64 1,.int .i64 1000]);generalize w.alloc (.cells #[.int .i64 0,.int .i64 0,.int .i64 10,.int .i64 0,.int .i64 0,.int .i64 1,.int .i64 1000] 23)=W0 at*;refine (HN.out W0).mono ?_;rintro e1 w1 ⟨hb1,⟨_,ga,Fa,rfl,hEa,hFa⟩|⟨hf,_⟩⟩
 ·have bc1:=YD.out.below hb1 YD.out.lt;obtain ⟨x0,x1,x2,x3,x4,x5,x6⟩:=zx (a0:=0) (a1:=0) (a2:=10) (a3:=0) (a4:=0) (a5:=1) (a6:=1000) bc1;have HEA:=Lib.hid hEa;have Wy:=Lib.hid hFa;have HB1:=Lib.hid (HB0.out.trans (hb1.mono HB0.out.size));have HZ1:=Lib.hid hb1.size;clear hEa hFa hb1 bc1;go_wp2_with fail;clear x0 x1 x2 x3 x4 x5 x6;refine (HN.out w1).mono ?_;rintro e2 w2 ⟨hb2,⟨_,gb,Fb,rfl,hEb,hFb⟩|⟨hf,_⟩⟩
  ·have hT:Two w ga gb kc dB iN 0 dB iN 0 Fa Fb w2:=by
    refine ⟨HB1.out.trans (hb2.mono HB1.out.size),HEA.out.below hb2,hEb,fun k hk=>⟨?_,fun e=> ?_⟩,fun k hk=> ?_⟩
    ·have:=Wy.out k hk;have:=HB0.out.size;omega
    ·have:=hFb k e;have:=HEA.out.lt k hk;omega
    ·have:=hFb k hk;have:=HB1.out.size;omega
   have Ob:=hT.below ((Below.refl _ w2).alloc (Nat.le_refl _) (.cells (bV [104,105]).toArray 5 (2,3)));have hc1:=IP Ob (tY kR) (Oa w2 [104,105] (by decide) (2,3));have Lh:=Lib.hid hc1;have HTA:=Lib.hid Ob;have HZW:=Lib.hid hT.Jw.size;clear hT Ob hc1 hEb hFb hb2 HEA Wy HB1 HZ1 HN HB0 YD;go_wp2_with (go_at_call 20;refine (nG _ _).mono ?_;rintro e1 w2 ⟨rfl,rfl⟩);refine Lh.out.mono ?_;rintro e3 w3 ⟨Fa3,rfl,PI⟩;rw[show (cZ kc dB [104,105]).2=0 from ko1];have U6:Two w ga gb kc k1 iN 0 dB iN 0 Fa3 Fb w3:=HTA.out.call PI;have HT3:=Lib.hid U6;have YH:=Lib.hid (Ch U6 aad (by omega) (xq kR) 0 9 (by decide) (by decide));clear PI U6 Lh HTA;go_wp2_with (go_at_call 20;refine (nG _ _).mono ?_;rintro e1 w2 ⟨rfl,rfl⟩);refine YH.out.mono ?_;rintro e4 w4 ⟨v4,Fa4,rfl,zG,hx4⟩;have FL:Two w ga gb kc k2.1 k2.2.1 0 dB iN 0 Fa4 Fb w4:=HT3.out.call zG;rw[show (dV kc k1 iN 0 9).2.2.2=0 from congrArg Prod.snd ko2];rw[show (dV kc k1 iN 0 9).2.2.1= [160,0,104,105] from congrArg Prod.fst ko2] at hx4;obtain ⟨A4,c4,hv4,hs4⟩:=hx4.sl;have NB:v4= .slice A4 4 c4:=hv4;subst NB;have VA:FZ w4 w Fb Fa4 (.slice A4 4 c4) [160,0,104,105]:=hx4.swap;have HC5:=Lib.hid (ko FL.swap (tY kR) (by omega) (xq kR) (by decide) 0 (by decide) A4 4 c4 [160,0,104,105] (VA.arg rfl) (by omega));have FM:=Lib.hid FL;have R7:=Lib.hid VA;clear zG hx4 VA hs4 hv4 FL YH HT3;go_wp2_with fail
   refine HC5.out.mono ?_;rintro e5 w5 ⟨v5,vs5,n5,Fb5,rfl,Ug,oU,hl5⟩;have zK:Two w gb ga kc k3.1 k3.2.1 n5 k2.1 k2.2.1 0 Fb5 Fa4 w5:=FM.out.swap.call oU;rw[show (dZ kc dB iN 0 [160,0,104,105]).2.2.2=0 from congrArg Prod.snd ko3];rw[show (dZ kc dB iN 0 [160,0,104,105]).2.2.1= [[104,105]] from congrArg Prod.fst ko3] at hl5;have hx5:=R7.out.call oU;obtain ⟨A5,c5,hv5,_⟩:=aZ hl5.1;have aeF:v5= .slice A5 1 c5:=hv5;subst aeF;have HC6:=Lib.hid (DK zK.ea 0);have DZ:=Lib.hid zK;have Uw:=Lib.hid hx5;have HL5:=Lib.hid hl5;have HN5:=Lib.hid Ug;clear oU hl5 hx5 zK hv5 HC5 FM R7 Ug;go_wp2_with fail;refine HC6.out.mono ?_;rintro e6 w6 ⟨rfl,hb6⟩;rw[show qG k3.2.1 0=true from ko4];have HC7:=Lib.hid (Ch (DZ.out.below hb6) aae.1 (by omega) aae.2 0 9 (by decide) (by decide));have HT6:=Lib.hid (DZ.out.below hb6);have V7:=Lib.hid (Uw.out.below hb6);have HL6:=Lib.hid (HL5.out.below hb6);clear hb6 HC6 DZ Uw HL5;go_wp2_with fail;refine HC7.out.mono ?_;rintro e7 w7 ⟨v7,Wz,rfl,Gl,hy7⟩;have hT7:Two w gb ga kc k5.1 k5.2.1 n5 k2.1 k2.2.1 0 Wz Fa4 w7:=HT6.out.call Gl;rw[show (dV kc k3.1 k3.2.1 0 9).2.2.2=0 from congrArg Prod.snd ko5];rw[show (dV kc k3.1 k3.2.1 0 9).2.2.1= [0,4] from congrArg Prod.fst ko5] at hy7;obtain ⟨A7,c7,hv7,_⟩:=hy7.sl;have QR:v7= .slice A7 2 c7:=hv7;subst QR;have VB:FZ w7 w Fa4 Wz (.slice A7 2 c7) [0,4]:=hy7.swap
   have HC8:=Lib.hid (ko hT7.swap Ri.1 (by omega) Ri.2 (by decide) 0 (by decide) A7 2 c7 [0,4] (VB.arg rfl) (by omega));have HT7:=Lib.hid hT7.swap;have HY7:=Lib.hid VB;have HX7:=Lib.hid (V7.out.call Gl).swap;have HL7:=Lib.hid (HL6.out.call Gl).swap;clear Gl hy7 VB hT7 hv7 HC7 HT6 V7 HL6;go_wp2_with fail;refine HC8.out.mono ?_;rintro e8 w8 ⟨v8,vs8,n8,Fa8,rfl,hn8,OI,hl8⟩;have Q5:Two w ga gb kc k6.1 k6.2.1 n8 k5.1 k5.2.1 n5 Fa8 Wz w8:=HT7.out.call OI;rw[show (dZ kc k2.1 k2.2.1 0 [0,4]).2.2.2=0 from congrArg Prod.snd ko6];rw[show (dZ kc k2.1 k2.2.1 0 [0,4]).2.2.1= [] from congrArg Prod.fst ko6] at hl8;obtain ⟨A8,c8,GN,_⟩:=aZ hl8.1;have aeI:v8= .slice A8 0 c8:=GN;subst aeI;have HC9:=Lib.hid (ko Q5 Rj.1 (by omega) Rj.2 (by unfold maxLen;omega) 0 (by decide) none 0 0 [] (fun W2 _=>Vz W2) (by omega));have HT8:=Lib.hid Q5;have HY8:=Lib.hid (HY7.out.call OI);have Yz:=Lib.hid (HX7.out.call OI);have HL8:=Lib.hid (HL7.out.call OI);have HN8:=Lib.hid hn8;clear OI hl8 Q5 GN HC8 HT7 HX7 HL7 HY7 hn8;go_wp2_with fail;refine HC9.out.mono ?_;rintro e9 w9 ⟨v9,Wh,n9,Fa9,rfl,hn9,uQ,MV⟩;have Wu:Two w ga gb kc k7.1 k7.2.1 n9 k5.1 k5.2.1 n5 Fa9 Wz w9:=HT8.out.call uQ;rw[show (dZ kc k6.1 k6.2.1 0 []).2.2.2=5 from congrArg Prod.snd ko7];have Ob:=Wu.below ((Below.refl _ w9).alloc (Nat.le_refl _) (.cells (bV [128]).toArray 5))
   have BK:=Lib.hid (ko Ob Rk.1 (by omega) Rk.2 (by have:=HN8.out;unfold maxLen;omega) 0 (by decide) (some ⟨w9.heap.size,0,none⟩) 1 1 [128] (Jy Wu.ea.lt [128] (by decide)) (by omega));have HTA:=Lib.hid Ob;have HYA:=Lib.hid ((HY8.out.call uQ).below ((Below.refl _ w9).alloc (Nat.le_refl _) (.cells (bV [128]).toArray 5)));have UO:=Lib.hid ((Yz.out.call uQ).below ((Below.refl _ w9).alloc (Nat.le_refl _) (.cells (bV [128]).toArray 5)));have HLA:=Lib.hid ((HL8.out.call uQ).below ((Below.refl _ w9).alloc (Nat.le_refl _) (.cells (bV [128]).toArray 5)));have HN9:=Lib.hid hn9;clear uQ MV Wu Ob HC9 HT8 Yz HL8 HY8 hn9;go_wp2_with fail;refine BK.out.mono ?_;rintro eA wA ⟨vA,vsA,nA,FaA,rfl,hnA,hRA,hlA⟩;have Ob:Two w ga gb kc k8.1 k8.2.1 nA k5.1 k5.2.1 n5 FaA Wz wA:=HTA.out.call hRA;rw[show (dZ kc k7.1 k7.2.1 0 [128]).2.2.2=5 from congrArg Prod.snd ko8];have VC:=Ob.below ((Below.refl _ wA).alloc (Nat.le_refl _) (.cells (bV [0,20]).toArray 5));have HCB:=Lib.hid (ko VC Rl.1 (by omega) Rl.2 (by have:=HN8.out;have:=HN9.out;unfold maxLen;omega) 0 (by decide) (some ⟨wA.heap.size,0,none⟩) 2 2 [0,20] (Jy Ob.ea.lt [0,20] (by decide)) (by omega));have HTB:=Lib.hid VC;have Ya:=Lib.hid ((HYA.out.call hRA).below ((Below.refl _ wA).alloc (Nat.le_refl _) (.cells (bV [0,20]).toArray 5)));have HXB:=Lib.hid ((UO.out.call hRA).below ((Below.refl _ wA).alloc (Nat.le_refl _) (.cells (bV [0,20]).toArray 5)))
   have HLB:=Lib.hid ((HLA.out.call hRA).below ((Below.refl _ wA).alloc (Nat.le_refl _) (.cells (bV [0,20]).toArray 5)));clear hRA hlA Ob VC BK HTA UO HLA HYA;go_wp2_with fail;refine HCB.out.mono ?_;rintro eB wB ⟨vB,vsB,nB,FaB,rfl,hnB,hRB,hlB⟩;have VC:Two w ga gb kc k9.1 k9.2.1 nB k5.1 k5.2.1 n5 FaB Wz wB:=HTB.out.call hRB;rw[show (dZ kc k8.1 k8.2.1 0 [0,20]).2.2.2=6 from congrArg Prod.snd ko9];have hxB:=HXB.out.call hRB;have hyB:=Ya.out.call hRB;have hlB:=HLB.out.call hRB;obtain ⟨Ax,cx,hvx,hsx⟩:=hxB.sl;cases hvx;obtain ⟨Ay,cy,hvy,hsy⟩:=hyB.sl;cases hvy;obtain ⟨Al,cl,hvl,hsl,_⟩:=aZ hlB.1;cases hvl;obtain ⟨vi,hvi,hbi⟩:=hlB.2.2 0 [104,105] rfl;obtain ⟨Ai,ci,aeJ,hsi⟩:=hbi.sl;subst aeJ;obtain ⟨al,hal,alo,hcl⟩:=hsl.at_ (by decide);subst hal;have cl0:wB.cell? al=some (.slice Ai 2 ci):=by have:=hcl 0 _ hvi;simpa[Addr.add] using this
   have q1:(convert 31 9 (.slice A4 4 c4)).run Tryz.prog wB= .ok (.string ⟨#[160,0,104,105]⟩) wB:=Cu hsx;have q2:(convert 31 9 (.slice A7 2 c7)).run Tryz.prog wB= .ok (.string ⟨#[0,4]⟩) wB:=Cu hsy;have q3:(convert 31 9 (.slice Ai 2 ci)).run Tryz.prog wB= .ok (.string ⟨#[104,105]⟩) wB:=Cu hsi;have VY:=Lib.hid (zy VC.ea aeC.1);have HBL:=Lib.hid VC.Jw;clear hRB VC hxB hyB hlB hbi hsl hsx hsy hsi hcl hvi HCB HTB HXB HLB Ya;go_wp2_with (first|(go_at_call 20;refine (nG _ _).mono ?_;rintro e1 w2 ⟨rfl,rfl⟩)|(go_at_call 25;refine VY.out.mono ?_;rintro eC wC ⟨rfl,hbC⟩;rw[show k9.1.done=1 from aeB]));go_ret;exact ⟨rfl,HBL.out.trans (hbC.mono HBL.out.size)⟩
  ·exact absurd hf (by decide)
 ·exact absurd hf (by decide)
end
section
open Go.RowKit Go.Shelf
attribute [local go_sem] Oper.semAt_some
attribute [local go_sem] Z6 Z7
def iQ (w:World) (v:Value):Prop:=v= .pointer none∨∃g,v= .pointer (some ⟨g,0,none⟩)∧g<w.heap.size∧w.cell? ⟨g,1,none⟩=some (.pointer none)
section
variable {w w':World} {v:Value}
theorem iQ.below (h:iQ w v) (hb:Below w.heap.size w w'):iQ w' v:=by
 rcases h with rfl|⟨g,rfl,hl,hc⟩
 ·exact .inl rfl
 ·exact .inr ⟨g,rfl,Nat.lt_of_lt_of_le hl hb.size,(hb.cell (p:=⟨g,1,none⟩) hl).trans hc⟩
theorem iQ.zero {g:Nat} (h:au w g 52 #[.pointer none,.pointer none]):iQ w (.pointer (some ⟨g,0,none⟩)):=by
 have x1:=h.cell 1;simp at x1;exact .inr ⟨g,rfl,h.lt,x1⟩
set_option maxRecDepth 10000 in
theorem fI (h:iQ w v):Calls Tryz.prog 48 #[v] w fun e w'=>e= .returned (.bool true)∧w=w':=by
 rcases h with rfl|⟨g,rfl,hl,hc⟩
 ·go_enter Tryz.func48,Tryz.ntmps48;go_wp2;go_ret;exact ⟨rfl,rfl⟩
 ·go_enter Tryz.func48,Tryz.ntmps48;go_wp2;go_ret;exact ⟨rfl,rfl⟩
set_option maxRecDepth 100000 in
theorem tZ (h:iQ w v) (A:Option Addr) (n c:Nat):Calls Tryz.prog 21 #[v,.slice A n c] w fun e w'=>e= .returned (.int .i64 1)∧Below w.heap.size w w':=by
 have HN:=Lib.hid (fI h);clear h;go_enter Tryz.func21,Tryz.ntmps21;go_wp2_with (go_at_call 48;refine HN.out.mono ?_;rintro e1 w1 ⟨rfl,rfl⟩);go_ret;exact ⟨rfl,Below.refl _ _⟩
set_option maxRecDepth 100000 in
theorem qg (h:iQ w v):Calls Tryz.prog 23 #[v] w fun e w'=>e= .returned (.int .i64 0)∧Below w.heap.size w w':=by
 have HN:=Lib.hid (fI h);clear h;go_enter Tryz.func23,Tryz.ntmps23;go_wp2_with (go_at_call 48;refine HN.out.mono ?_;rintro e1 w1 ⟨rfl,rfl⟩);go_ret;exact ⟨rfl,Below.refl _ _⟩
set_option maxRecDepth 100000 in
theorem qM (h:iQ w v) (now:Int):Calls Tryz.prog 24 #[v,.int .i64 now] w fun e w'=>e= .returned (.bool false)∧Below w.heap.size w w':=by
 have HN:=Lib.hid (fI h);clear h;go_enter Tryz.func24,Tryz.ntmps24;go_wp2_with (go_at_call 48;refine HN.out.mono ?_;rintro e1 w1 ⟨rfl,rfl⟩);go_ret;exact ⟨rfl,Below.refl _ _⟩
set_option maxRecDepth 100000 in
theorem uf (h:iQ w v):Calls Tryz.prog 26 #[v] w fun e w'=>e= .returned (.slice none 0 0)∧Below w.heap.size w w':=by
 have HN:=Lib.hid (fI h);clear h;go_enter Tryz.func26,Tryz.ntmps26;go_wp2_with (go_at_call 48;refine HN.out.mono ?_;rintro e1 w1 ⟨rfl,rfl⟩);go_ret;exact ⟨rfl,Below.refl _ _⟩
set_option maxRecDepth 100000 in
theorem zA (h:iQ w v):Calls Tryz.prog 29 #[v] w fun e w'=>e= .returned (.pointer none)∧Below w.heap.size w w':=by
 have HN:=Lib.hid (fI h);clear h;go_enter Tryz.func29,Tryz.ntmps29;go_wp2_with (go_at_call 48;refine HN.out.mono ?_;rintro e1 w1 ⟨rfl,rfl⟩);go_ret;exact ⟨rfl,Below.refl _ _⟩
set_option maxRecDepth 100000 in
theorem zB (h:iQ w v) (now:Int):Calls Tryz.prog 22 #[v,.int .i64 now] w fun e w'=>e= .returned (.int .i64 1)∧Below w.heap.size w w':=by
 have hB:=(Below.refl w.heap.size w).alloc (Nat.le_refl _) (.cells #[.int .i64 0] 53);have HN:=Lib.hid (fI (h.below hB));clear h
 go_enter_defers Tryz.func22,Tryz.ntmps22
 go_wp2_with (go_at_call 48;refine HN.out.mono ?_;rintro e1 w1 ⟨rfl,rfl⟩);refine ⟨.int .i64 1,by simp[results,Tryz.results22,go_sem],rfl,?_⟩;exact (Below.refl _ w).alloc (Nat.le_refl _) _
set_option maxRecDepth 100000 in
set_option maxHeartbeats 1000000 in
theorem jW (h:iQ w v):Calls Tryz.prog 27 #[v] w fun e w'=>e= .returned (.agg #[.int .i64 0,.int .i64 0,.int .i64 0,.int .i64 0,.int .i64 0,.bool false,.int .i64 0,.bool false,.int .i64 0,.bool false])∧Below w.heap.size w w':=by
 have hB:=(Below.refl w.heap.size w).alloc (Nat.le_refl _) (.cells #[.int .i64 0,.int .i64 0,.int .i64 0,.int .i64 0,.int .i64 0,.bool false,.int .i64 0,.bool false,.int .i64 0,.bool false] 65);have HN:=Lib.hid (fI (h.below hB));clear h;go_enter Tryz.func27,Tryz.ntmps27;go_wp2_with (go_at_call 48;refine HN.out.mono ?_;rintro e1 w1 ⟨rfl,rfl⟩);refine bodyPost_ret (v:= .agg #[.int .i64 0,.int .i64 0,.int .i64 0,.int .i64 0,.int .i64 0,.bool false,.int .i64 0,.bool false,.int .i64 0,.bool false]) ?_ rfl ?_
 ·rw[iO rfl];go_simp
  done
 ·exact ⟨rfl,hB⟩
theorem ug (h:iQ w v):Calls Tryz.prog 16 #[v] w fun e w'=>e= .returned (.bool false)∧Below w.heap.size w w':=by
 have HS:=Lib.hid (jW h);clear h;go_enter Tryz.func16,Tryz.ntmps16;go_wp2_with (go_at_call 27;refine HS.out.mono ?_;rintro e2 w2 ⟨rfl,hb2⟩);go_ret;exact ⟨rfl,hb2⟩
theorem oI (h:iQ w v):Calls Tryz.prog 25 #[v] w fun e w'=>e= .returned (.int .i64 0)∧Below w.heap.size w w':=by
 have HS:=Lib.hid (jW h);clear h;go_enter Tryz.func25,Tryz.ntmps25;go_wp2_with (go_at_call 27;refine HS.out.mono ?_;rintro e2 w2 ⟨rfl,hb2⟩);go_ret;exact ⟨rfl,hb2⟩
set_option maxRecDepth 100000 in
theorem vY (h:iQ w v) (now n:Int):Calls Tryz.prog 18 #[v,.int .i64 now,.int .i64 n] w fun e w'=>e= .returned (.tuple #[.slice none 0 0,.int .i64 1])∧Below w.heap.size w w':=by
 have hB:=(Below.refl w.heap.size w).alloc (Nat.le_refl _) (.cells #[.int .i64 0] 53);have HN:=Lib.hid (fI (h.below hB));clear h
 go_enter_defers Tryz.func18,Tryz.ntmps18
 go_wp2_with (go_at_call 48;refine HN.out.mono ?_;rintro e1 w1 ⟨rfl,rfl⟩);refine ⟨.tuple #[.slice none 0 0,.int .i64 1],by simp[results,Tryz.results18,go_sem],rfl,?_⟩;exact (Below.refl _ w).alloc (Nat.le_refl _) _
set_option maxRecDepth 100000 in
theorem qN (h:iQ w v) (now:Int) (A:Option Addr) (n c:Nat):Calls Tryz.prog 19 #[v,.int .i64 now,.slice A n c] w fun e w'=>e= .returned (.tuple #[.slice none 0 0,.int .i64 1])∧Below w.heap.size w w':=by
 have hB:=(Below.refl w.heap.size w).alloc (Nat.le_refl _) (.cells #[.int .i64 0] 53);have HN:=Lib.hid (fI (h.below hB));clear h
 go_enter_defers Tryz.func19,Tryz.ntmps19
 go_wp2_with (go_at_call 48;refine HN.out.mono ?_;rintro e1 w1 ⟨rfl,rfl⟩);refine ⟨.tuple #[.slice none 0 0,.int .i64 1],by simp[results,Tryz.results19,go_sem],rfl,?_⟩;exact (Below.refl _ w).alloc (Nat.le_refl _) _
set_option maxRecDepth 100000 in
set_option maxHeartbeats 1000000 in
theorem oJ (h:iQ w v):Calls Tryz.prog 28 #[v] w fun e w'=>e= .returned (.agg #[.int .i64 0,.int .i64 0,.int .i64 0,.bool false,.int .i64 0,.int .i64 0,.bool false,.int .i64 0])∧Below w.heap.size w w':=by
 have hB:=(Below.refl w.heap.size w).alloc (Nat.le_refl _) (.cells #[.int .i64 0,.int .i64 0,.int .i64 0,.bool false,.int .i64 0,.int .i64 0,.bool false,.int .i64 0] 68);have HN:=Lib.hid (fI (h.below hB));clear h;go_enter Tryz.func28,Tryz.ntmps28;go_wp2_with (go_at_call 48;refine HN.out.mono ?_;rintro e1 w1 ⟨rfl,rfl⟩);refine bodyPost_ret (v:= .agg #[.int .i64 0,.int .i64 0,.int .i64 0,.bool false,.int .i64 0,.int .i64 0,.bool false,.int .i64 0]) ?_ rfl ?_
 ·rw[iO rfl];go_simp
  done
 ·exact ⟨rfl,hB⟩
end
end
end Go.Proofs.YtbhiklnljiehiaaGreat
