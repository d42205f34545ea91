/- An acknowledged mode entity in memory: a. -/
import Derived.Test.YtbhiklnljiehiaaGreatM1bi
import Derived.Test.YtbhiklnljiehiaaGreatM1bo
namespace Go.Proofs.YtbhiklnljiehiaaGreat
section
open Go.RowKit Go.Shelf
section
variable {w w' w'':World} {T:Nat→Nat} {g M n n' gs gr ge K B:Nat} {c:Cf} {s s':Sd} {st st' r r':Rc} {vo v:Value} {F Fs Fr F':Nat→Prop}
def wT (w:World) (F:Nat→Prop) (g n:Nat) (c:Cf) (st:Rc):Prop:=∃T M vo,iC w T g M n c st vo∧∀k,F k↔T k≠0
theorem wT.lt (h:wT w F g n c st):∀k,F k→k<w.heap.size:=fun k hk=>by
 obtain ⟨T,M,vo,h,hF⟩:=h;exact h.lt k ((hF k).1 hk)
theorem wT.stay (h:wT w F g n c st) (hk:∀k,F k→w'.heap[k]? =w.heap[k]?):wT w' F g n c st:=by
 obtain ⟨T,M,vo,h,hF⟩:=h;exact ⟨T,M,vo,h.stay fun k hk'=>hk k ((hF k).2 hk'),hF⟩
theorem jh {M:Nat→Obj→Prop} (hk:Kept M w w') {k:Nat} (hl:k<w.heap.size) (hm:∀o,¬M k o):w'.heap[k]? =w.heap[k]? :=by
 have e:=Array.getElem?_eq_getElem hl;rw[e];exact hk.same _ _ e (hm _)
theorem wT.below (h:wT w F g n c st) (hb:Below w.heap.size w w'):wT w' F g n c st:=h.stay fun k hk=>hb.block k (h.lt k hk)
theorem wT.of (h:iC w' T g M n c st vo):wT w' (fun k=>T k≠0) g n c st:=⟨T,M,vo,h,fun _=>Iff.rfl⟩
structure tC (c:Cf) (st:Rc):Prop where
 cf:ZS c
 ok:eF st
 sz:vk st
theorem tC.recv (h:tC c st) {now:Int} (hn:now≤9223372036854775807) (bs:List UInt8):tC c (fK c st now bs).1:=⟨h.cf,h.ok.recv c hn bs,h.sz.recv c now bs⟩
theorem tC.kI (h:tC c st) {now:Int} (hn:now≤9223372036854775807) (N:Int):tC c (dS c st now N).1:=⟨h.cf,h.ok.kI c hn N,h.sz.kI c now N⟩
theorem tC.goes (h:tC c st) {now:Int} (hn:now≤9223372036854775807):tC c (cZ c st now):=⟨h.cf,h.ok.goes c hn,h.sz.QW (wP c st now)⟩
theorem yU (h:wT w F g n c st) (now:Int):
 Calls Tryz.prog 53 #[.pointer (some ⟨g,0,none⟩),.int .i64 now] w fun e w'=>e= .returned (.bool (tO st now))∧Below w.heap.size w w':=
 let ⟨_,_,_,h,_⟩:=h
 Gj h now
end
end
section
open Go.RowKit Go.Shelf
attribute [local go_sem] Oper.semAt_some
structure Fp where
 a:Nat→Prop
 b:Nat→Prop
instance:CoeFun Fp (fun _=>Nat→Prop):=⟨Fp.a⟩
def U8 (o:Obj):Prop:=∃cs fr,o= .cells cs 5 fr
section
variable {w w' w'':World} {g n n' gs gr ge K B:Nat} {c:Cf} {s s':Sd} {r r':Rc} {v:Value} {Fs Fr:Nat→Prop} {F F':Fp}
def Q8 (w:World) (Fs:Nat→Prop) (g:Nat) (c:Cf) (st:Sd) (w':World):Prop:=∃F',BS w' F' g c st∧dm w Fs F'∧Kept (fun k o=>Fs k∧¬U8 o) w w'
theorem mg.gw {vq vo:Value} {vs os:List Value} {st:Sd} (h:eZ w (minD g vq vo os) Fs g c s vq vs vo os) (ho:mg w (minD g vq vo os) Fs g c st w'):Q8 w Fs g c st w':=by
 obtain ⟨D',F',KE,vs',CW,os',h1,_,h3,h4⟩:=ho;exact ⟨F',⟨D',KE,vs',CW,os',h1⟩,h3,h4.gH fun k o ho hk=>⟨h.sub k hk,fun ⟨cs,fr,e⟩=>h.min_u8 hk cs fr (by rw[ho,e])⟩⟩
theorem Lb (h:BS w Fs g c s) (ho:fq c s K) {A:Option Addr} {n cc:Nat} {x:List UInt8} (hx:Sl w w.heap.size A n cc (bQ x)):
 Calls Tryz.prog 58 #[.pointer (some ⟨g,0,none⟩),.slice A n cc] w fun e w'=>e= .returned (.int .i64 (aW c s x).2)∧Q8 w Fs g c (aW c s x).1 w':=by
 obtain ⟨D,vq,vs,vo,os,h⟩:=h;have hh:=ho.bnd.held;have hq:=xN ho.inv.pos;have e:dx s=aj s.queue:=rfl;exact (Iw h.min ho.cf hh (by omega) hx).mono fun e w' hh=>⟨hh.1,hh.2.gw h.min⟩
theorem Q9 (h:BS w Fs g c s) (ho:fq c s K) (hK:K≤90000) (now:Int) (hn:now≤9223372036854775807):
 Calls Tryz.prog 51 #[.pointer (some ⟨g,0,none⟩),.int .i64 now] w fun e w'=>e= .returned (.int .i64 (fM c s now).2)∧Q8 w Fs g c (fM c s now).1 w':=by
 obtain ⟨D,vq,vs,vo,os,h⟩:=h;exact (Ng h.min ho.cf.timer.1 ho.bnd hK ho.inv.w now hn).mono fun e w' hh=>⟨hh.1,hh.2.gw h.min⟩
theorem Lc (h:BS w Fs g c s) (ho:fq c s K) (hK:K≤90000) (now aJ:Int) (hn:now≤9223372036854775807) (A:Option Addr) (n cc:Nat) (dZ:List Nk) (hN:bX w A n cc dZ) (hAF:∀ad,A=some ad→0<n→¬Fs ad.block):
 Calls Tryz.prog 93 #[.pointer (some ⟨g,0,none⟩),.int .i64 now,.agg #[.int .i64 aJ,.slice A n cc]] w fun e w'=>e= .returned (.int .i64 (dL c s now aJ dZ).2)∧Q8 w Fs g c (dL c s now aJ dZ).1 w':=by
 obtain ⟨D,vq,vs,vo,os,h⟩:=h;by_cases hf:s.failed=true
 ·exact (tX h.min ho.cf.timer.1 now aJ A n cc dZ hN (.inl hf)).mono fun e w' hh=>⟨hh.1,hh.2.gw h.min⟩
 ·cases hv:bS aJ dZ with
  |false=>exact (tX h.min ho.cf.timer.1 now aJ A n cc dZ hN (.inr hv)).mono fun e w' hh=>⟨hh.1,hh.2.gw h.min⟩
  |true=>exact (ID h.min ho.cf ho.bnd hK ho.inv (by simpa using hf) now aJ hn A n cc dZ hN (fun ad e hz hd=>hAF ad e hz (h.min.sub _ hd)) hv).mono fun e w' hh=>⟨hh.1,hh.2.gw h.min⟩
theorem EN (h:BS w Fs g c s) (ho:fq c s K) (hK:K≤90000) (now n:Int) (dM:now≤9223372036854775807) (hn:n≤9223372036854775807):
 Calls Tryz.prog 55 #[.pointer (some ⟨g,0,none⟩),.int .i64 now,.int .i64 n] w fun e w'=>∃v,e= .returned (.tuple #[v,.int .i64 (bV c s now n).2.2])∧w'.ownsRow w.heap.size 5 1 v (IU (bV c s now n).2.1).length (bQ (IU (bV c s now n).2.1))∧Q8 w Fs g c (bV c s now n).1 w':=by
 obtain ⟨D,vq,vs,vo,os,h⟩:=h;have key:Calls Tryz.prog 55 #[.pointer (some ⟨g,0,none⟩),.int .i64 now,.int .i64 n] w (IW w (minD g vq vo os) Fs g c (bV c s now n)):=by
  by_cases hx:s.failed=true∨n<0
  ·exact F7 h.min ho.cf.timer.1 now n hx
  ·have hx':=not_or.1 hx;exact KS h.min ho.cf ho.bnd hK ho.inv (by simpa using hx'.1) now n dM (by omega) hn
 exact key.mono fun e w' hh=>by
  obtain ⟨v,h1,h2,h3⟩:=hh;exact ⟨v,h1,h2,h3.gw h.min⟩
def RcK (w:World) (F:Nat→Prop) (g n:Nat) (c:Cf) (st:Rc) (w':World):Prop:=wT w' F g n c st∧Kept (fun k _=>F k) w w'
theorem NW (h:wT w Fr g n c r) (ho:tC c r) (now:Int) (dM:now≤9223372036854775807) (N:Int) (hN:N≤9223372036854775807):
 Calls Tryz.prog 54 #[.pointer (some ⟨g,0,none⟩),.int .i64 now,.int .i64 N] w fun e w'=>∃v,e= .returned (.tuple #[v,.int .i64 ((dS c r now N).2.2:Nat)])∧w'.ownsRow w.heap.size 5 1 v (dS c r now N).2.1.length (bQ (dS c r now N).2.1)∧RcK w Fr g n c (dS c r now N).1 w':=by
 obtain ⟨T,M,vo,h,hF⟩:=h;refine (KY h ho.ok ho.sz ho.cf now dM N hN).mono ?_;rintro e w' ⟨v,rfl,hv,hR,hK⟩;exact ⟨v,rfl,hv,⟨T,M,vo,hR,hF⟩,hK.mono fun k o hm=>(hF k).2 hm⟩
theorem Ra (h:wT w Fr g n c r) (ho:tC c r) (now:Int) (dM:now≤9223372036854775807):
 Calls Tryz.prog 52 #[.pointer (some ⟨g,0,none⟩),.int .i64 now] w fun e w'=>e= .returned (.int .i64 0)∧RcK w Fr g n c (cZ c r now) w':=by
 obtain ⟨T,M,vo,h,hF⟩:=h;refine (NQ h ho.ok ho.cf now dM).mono ?_;rintro e w' ⟨rfl,hR,hK⟩;exact ⟨rfl,⟨T,M,vo,hR,hF⟩,hK.mono fun k o hm=>(hF k).2 hm⟩
def UR (F:Fp) (ge:Nat) (Fs Fr:Nat→Prop):Prop:=(∀k,F k↔k=ge∨Fs k∨Fr k)∧∀k,F.b k↔Fr k
def ny (w:World) (F:Fp) (ge:Nat) (c:Cf) (s:Sd) (r:Rc) (n:Nat):Prop:=
 ∃gs gr Fs Fr,au w ge 52 #[.pointer (some ⟨gs,0,none⟩),.pointer (some ⟨gr,0,none⟩)]∧BS w Fs gs c s∧wT w Fr gr n c r∧(∀k,Fs k→¬Fr k)∧¬Fs ge∧¬Fr ge∧UR F ge Fs Fr
def Oy (w:World) (F:Fp) (ge:Nat) (c:Cf) (s:Sd) (r:Rc) (n:Nat) (w':World):Prop:=∃F':Fp,ny w' F' ge c s r n∧dm w F F'∧(∀k,F'.b k→F.b k)∧Kept (fun k o=>F k∧(U8 o→F.b k)) w w'
theorem ny.lt (h:ny w F ge c s r n):∀k,F k→k<w.heap.size:=fun k hk=>by
 obtain ⟨gs,gr,Fs,Fr,h1,h2,h3,_,_,_,hF⟩:=h;rcases (hF.1 k).1 hk with rfl|e|e
 ·exact h1.lt
 ·exact h2.lt k e
 ·exact h3.lt k e
theorem ny.Rb (h:ny w F ge c s r n):∀k,F.b k→F k:=fun k hk=>by
 obtain ⟨gs,gr,Fs,Fr,_,_,_,_,_,_,hF⟩:=h;exact (hF.1 k).2 (.inr (.inr ((hF.2 k).1 hk)))
theorem ny.stay (h:ny w F ge c s r n) (hk:∀k,F k→w'.heap[k]? =w.heap[k]?):ny w' F ge c s r n:=by
 obtain ⟨gs,gr,Fs,Fr,h1,h2,h3,h4,h5,h6,hF⟩:=h;exact ⟨gs,gr,Fs,Fr,(hk ge ((hF.1 ge).2 (.inl rfl))).trans h1,h2.stay fun k e=>hk k ((hF.1 k).2 (.inr (.inl e))),h3.stay fun k e=>hk k ((hF.1 k).2 (.inr (.inr e))),h4,h5,h6,hF⟩
theorem ny.below (h:ny w F ge c s r n) (hb:Below w.heap.size w w'):ny w' F ge c s r n:=h.stay fun k hk=>hb.block k (h.lt k hk)
theorem ny.snd (h1:au w ge 52 #[.pointer (some ⟨gs,0,none⟩),.pointer (some ⟨gr,0,none⟩)]) (_h2:BS w Fs gs c s) (h3:wT w Fr gr n c r) (h4:∀k,Fs k→¬Fr k) (h5:¬Fs ge) (h6:¬Fr ge) (hF:UR F ge Fs Fr) (hG:Q8 w Fs gs c s' w'):Oy w F ge c s' r n w':=by
 obtain ⟨Fs',a1,a2,a3⟩:=hG;refine ⟨⟨fun k=>k=ge∨Fs' k∨Fr k,Fr⟩,⟨gs,gr,Fs',Fr,(jh a3 h1.lt fun _ e=>h5 e.1).trans h1,a1,h3.stay fun k hk=>jh a3 (h3.lt k hk) fun _ e=>h4 k e.1 hk,fun k hk hk2=> ?_,fun e=> ?_,h6,fun _=>Iff.rfl,fun _=>Iff.rfl⟩,fun k hk=> ?_,fun k hk=>(hF.2 k).2 hk,a3.mono fun k _ e=>⟨(hF.1 k).2 (.inr (.inl e.1)),fun u=>absurd u e.2⟩⟩
 ·rcases a2 k hk with e|e
  ·exact h4 k e hk2
  ·have:=h3.lt k hk2;omega
 ·rcases a2 ge e with e|e
  ·exact h5 e
  ·have:=h1.lt;omega
 ·rcases hk with e|e|e
  ·exact .inl ((hF.1 k).2 (.inl e))
  ·rcases a2 k e with e|e
   ·exact .inl ((hF.1 k).2 (.inr (.inl e)))
   ·exact .inr e
  ·exact .inl ((hF.1 k).2 (.inr (.inr e)))
theorem ny.rcv (h1:au w ge 52 #[.pointer (some ⟨gs,0,none⟩),.pointer (some ⟨gr,0,none⟩)]) (h2:BS w Fs gs c s) (_h3:wT w Fr gr n c r) (h4:∀k,Fs k→¬Fr k) (h5:¬Fs ge) (h6:¬Fr ge) (hF:UR F ge Fs Fr) (hG:RcK w Fr gr n' c r' w'):Oy w F ge c s r' n' w':=by
 obtain ⟨a1,a3⟩:=hG;exact ⟨F,⟨gs,gr,Fs,Fr,(jh a3 h1.lt fun _=>h6).trans h1,h2.stay fun k hk=>jh a3 (h2.lt k hk) fun _ e=>h4 k hk e,a1,h4,h5,h6,hF⟩,dm.refl _ _,fun _ e=>e,a3.mono fun k _ e=>⟨(hF.1 k).2 (.inr (.inr e)),fun _=>(hF.2 k).2 e⟩⟩
end
theorem oL (be:Nat) (w:World):
 CallsD Tryz.prog 49 #[.pointer (some ⟨be,0,none⟩)] .returning w fun e u' w'=>e= .returned (.tuple #[])∧u'= .returning∧w=w':=by
 have hnn:=run_eql_nil_nil (P:=Tryz.prog) w (t:=20) (by kernel_rfl);refine callsD_of_wpS Tryz.func49 rfl fun c₀ cs hu=> ?_
 apply wpS_seq;apply wpS_region;generalize hQ:Exit.thenS _ _=Q;simp[wpOpsS,go_sem,recoverD,hu,Tryz.ntmps49];subst hQ;simp only[Exit.thenS];refine wpS_of_wp ?_;rw[show (#[.pointer (some ⟨be,0,none⟩)]++((Array.replicate 18 undef).setIfInBounds 4 (.nilIface)).setIfInBounds 1 (.nilIface):Array Value)= #[.pointer (some ⟨be,0,none⟩),undef,.nilIface,undef,undef,.nilIface,undef,undef,undef,undef,undef,undef,undef,undef,undef,undef,undef,undef,undef] from by kernel_rfl];change Code.wp _ _ (jA Tryz.prog Tryz.f49 c₀ cs (c₀::cs) _) _ w;go_wp2;cases c₀
 simp_all [jA,bodyPostS,results,Tryz.results49]
set_option maxHeartbeats 400000 in
set_option maxRecDepth 100000 in
theorem lY (be:Nat) (er:Int) (v4:Value) (w:World) (he:au w be 53 #[v4]):
 CallsD Tryz.prog 49 #[.pointer (some ⟨be,0,none⟩)] (.panicking [{v:= .iface 53 (.int .i64 er),recovered:=false}]) w fun e u' w'=>e= .returned (.tuple #[])∧u'= .panicking [{v:= .iface 53 (.int .i64 er),recovered:=true}]∧
  w.setCell ⟨be,0,none⟩ (.int .i64 er)=w':=by
 have hnn:=run_eql_held_nil (P:=Tryz.prog) w 20 53 (.int .i64 er) (by kernel_rfl);have hta:=lZ er w;refine callsD_of_wpS Tryz.func49 rfl fun c₀ cs hu=> ?_
 apply wpS_seq;apply wpS_region;generalize hQ:Exit.thenS _ _=Q;simp[wpOpsS,go_sem,recoverD,hu,Tryz.ntmps49];subst hQ;simp only[Exit.thenS];refine wpS_of_wp ?_;rw[show (#[.pointer (some ⟨be,0,none⟩)]++((Array.replicate 18 undef).setIfInBounds 4 (.iface 53 (.int .i64 er))).setIfInBounds 1 (.iface 53 (.int .i64 er)):Array Value)= #[.pointer (some ⟨be,0,none⟩),undef,.iface 53 (.int .i64 er),undef,undef,.iface 53 (.int .i64 er),undef,undef,undef,undef,undef,undef,undef,undef,undef,undef,undef,undef,undef] from by kernel_rfl];change Code.wp _ _ (jA Tryz.prog Tryz.f49 c₀ cs _ _) _ w;have c4:=he.cell 0;have f4:=he.frozen 0;simp at c4;go_wp2;exact ⟨rfl,_,rfl,.tuple #[],by simp[results,Tryz.results49],rfl,rfl,rfl⟩
theorem pQ (r:Nat) (w:World) (h:au w r 53 #[.int .i64 0]):Calls Tryz.prog 50 #[.slice (some ⟨r,0,none⟩) 1 1] w fun e w'=>e= .returned (.tuple #[])∧w=w':=by
 have c0:=h.cell 0;simp at c0;clear h;go_enter Tryz.func50,Tryz.ntmps50;go_wp2
 go_loop [6] (fun i=>∃k:Nat,k≤1∧i= .int .i64 k) (fun i=>1-(intOf i).toNat)
 case atStart=>exact ⟨0,by decide,rfl⟩
 case round=>
  obtain ⟨k,hk,rfl⟩:=hrel;obtain rfl|rfl:k=0∨k=1:=by omega
  ·go_wp2
   go_round
   case rel=>exact ⟨1,by decide,by go_num⟩
   case measure=>simp[intOf]
  ·go_wp2
   go_end0
   exact ⟨rfl,rfl⟩
theorem qA (r:Nat) (er:Int) (Ob:(er !=0)=true) (w:World) (h:au w r 53 #[.int .i64 er]):Calls Tryz.prog 50 #[.slice (some ⟨r,0,none⟩) 1 1] w fun e w'=>e=raise er∧w=w':=by
 have c0:=h.cell 0;simp at c0;clear h;unfold raise;go_enter Tryz.func50,Tryz.ntmps50;go_wp2
 go_loop [6] (fun i=>i= .int .i64 0) (fun i=>1-(intOf i).toNat)
 case atStart=>rfl
 case round=>
  subst hrel;go_wp2;exact ⟨rfl,rfl,rfl⟩
end
section
open Go.RowKit Go.Shelf
attribute [local go_sem] Oper.semAt_some
def V4 (w:World) (a0 a1 a2 a3 a4 a5 a6:Int) (e:Ending) (w':World):Prop:=
 Below w.heap.size w w'∧
  ((dR a0 a1 a2 a3 a4 a5 a6=true∧∃s F,e= .returned (.tuple #[.pointer (some ⟨s,0,none⟩),.int .i64 0])∧(∀k,F k→w.heap.size≤k)∧wT w' F s 0 (sZ a0 a1 a2 a3 a4 a5 a6) gq)∨(dR a0 a1 a2 a3 a4 a5 a6=false∧e= .returned (.tuple #[.pointer none,.int .i64 2])))
theorem US (a0 a1 a2 a3 a4 a5 a6:Int) (w:World):Calls Tryz.prog 73 #[.agg (wK a0 a1 a2 a3 a4 a5 a6)] w (V4 w a0 a1 a2 a3 a4 a5 a6):=by
 refine (QV a0 a1 a2 a3 a4 a5 a6 w).mono ?_;rintro e w' ⟨hb,⟨h1,g,M,T,he,hR,hT⟩|h⟩
 ·exact ⟨hb,.inl ⟨h1,g,_,he,hT,wT.of hR⟩⟩
 ·exact ⟨hb,.inr h⟩
theorem rZ {w:World} {c:Nat} {a0 a1 a2 a3 a4 a5 a6:Int} (hc:au w c 23 (wK a0 a1 a2 a3 a4 a5 a6)):w.cell? ⟨c,0,none⟩=some (.int .i64 a0)∧w.cell? ⟨c,1,none⟩=some (.int .i64 a1)∧w.cell? ⟨c,2,none⟩=some (.int .i64 a2)∧w.cell? ⟨c,3,none⟩=some (.int .i64 a3)∧w.cell? ⟨c,4,none⟩=some (.int .i64 a4)∧w.cell? ⟨c,5,none⟩=some (.int .i64 a5)∧w.cell? ⟨c,6,none⟩=some (.int .i64 a6):=
 ⟨hc.cell 0,hc.cell 1,hc.cell 2,hc.cell 3,hc.cell 4,hc.cell 5,hc.cell 6⟩
set_option maxRecDepth 100000 in
theorem YZ (a0 a1 a2 a3 a4 a5 a6:Int) (c:Nat) (w:World) (hc:au w c 23 (wK a0 a1 a2 a3 a4 a5 a6)):Calls Tryz.prog 69 #[.pointer (some ⟨c,0,none⟩)] w (abY w a0 a1 a2 a3 a4 a5 a6):=by
 have hcall:=Ug a0 a1 a2 a3 a4 a5 a6 w;obtain ⟨x0,x1,x2,x3,x4,x5,x6⟩:=rZ hc;unfold wK at hcall;have zN:=ah hcall;clear hc hcall;go_enter Tryz.func69,Tryz.ntmps69;go_wp2_with fail;refine zN.out.mono ?_;rintro e1 w1 ⟨hk,⟨hr,s,rfl,hs,hb,ho⟩|⟨hr,rfl⟩⟩
 ·go_wp2
  go_ret2
  exact ⟨hk,.inl ⟨hr,_,rfl,hs,hb,ho⟩⟩
 ·go_wp2
  go_ret2
  exact ⟨hk,.inr ⟨hr,rfl⟩⟩
set_option maxRecDepth 100000 in
theorem Y0 (a0 a1 a2 a3 a4 a5 a6:Int) (c:Nat) (w:World) (hc:au w c 23 (wK a0 a1 a2 a3 a4 a5 a6)):Calls Tryz.prog 72 #[.pointer (some ⟨c,0,none⟩)] w (V4 w a0 a1 a2 a3 a4 a5 a6):=by
 have hcall:=US a0 a1 a2 a3 a4 a5 a6 w;obtain ⟨x0,x1,x2,x3,x4,x5,x6⟩:=rZ hc;unfold wK at hcall;have zN:=ah hcall;clear hc hcall;go_enter Tryz.func72,Tryz.ntmps72;go_wp2_with fail;refine zN.out.mono ?_;rintro e1 w1 ⟨hk,⟨hr,s,F,rfl,hs,hb⟩|⟨hr,rfl⟩⟩
 ·go_wp2
  go_ret2
  exact ⟨hk,.inl ⟨hr,_,F,rfl,hs,hb⟩⟩
 ·go_wp2
  go_ret2
  exact ⟨hk,.inr ⟨hr,rfl⟩⟩
def ah1 (w:World) (a0 a1 a2 a3 a4 a5 a6:Int) (e:Ending) (w':World):Prop:=
 Below w.heap.size w w'∧((dR a0 a1 a2 a3 a4 a5 a6=true∧∃s,e= .returned (.pointer (some ⟨s,0,none⟩))∧w.heap.size≤s∧BS w' (·=s) s (sZ a0 a1 a2 a3 a4 a5 a6) dK)∨(dR a0 a1 a2 a3 a4 a5 a6=false∧e=raise 2))
theorem Y1 (a0 a1 a2 a3 a4 a5 a6:Int) (c:Nat) (w:World) (hc:au w c 23 (wK a0 a1 a2 a3 a4 a5 a6)):Calls Tryz.prog 68 #[.func (.func 69) #[] #[.pointer (some ⟨c,0,none⟩)]] w (ah1 w a0 a1 a2 a3 a4 a5 a6):=by
 have hcall:=YZ a0 a1 a2 a3 a4 a5 a6 c w hc;have zN:=ah hcall;clear hc hcall;go_enter Tryz.func68,Tryz.ntmps68;go_wp2_with fail;refine zN.out.mono ?_;rintro e1 w1 ⟨hk,⟨hr,s,rfl,hs,hb,_⟩|⟨hr,rfl⟩⟩
 ·have HK:=ah hk;have HBF:=ah hb;have hm:=pQ w1.heap.size _ (au.new w1 53 #[.int .i64 0]);have HM:=ah hm;clear hk hm hb;go_wp2_with (go_at_call 50;refine HM.out.mono ?_;rintro e2 w2 ⟨rfl,rfl⟩);go_ret;exact ⟨HK.out.alloc HK.out.size _,.inl ⟨hr,_,rfl,hs,HBF.out.below ((Below.refl _ w1).alloc (aN) _)⟩⟩
 ·have HK:=ah hk;have hm:=qA w1.heap.size 2 (by decide) _ (au.new w1 53 #[.int .i64 2]);have HM:=ah hm;clear hk hm;go_wp2_with (go_at_call 50;refine HM.out.mono ?_;rintro e2 w2 ⟨rfl,rfl⟩);exact ⟨rfl,HK.out.alloc HK.out.size _,.inr ⟨hr,rfl⟩⟩
def ah3 (w:World) (a0 a1 a2 a3 a4 a5 a6:Int) (e:Ending) (w':World):Prop:=
 Below w.heap.size w w'∧((dR a0 a1 a2 a3 a4 a5 a6=true∧∃s F,e= .returned (.pointer (some ⟨s,0,none⟩))∧(∀k,F k→w.heap.size≤k)∧wT w' F s 0 (sZ a0 a1 a2 a3 a4 a5 a6) gq)∨(dR a0 a1 a2 a3 a4 a5 a6=false∧e=raise 2))
theorem Y2 (a0 a1 a2 a3 a4 a5 a6:Int) (c:Nat) (w:World) (hc:au w c 23 (wK a0 a1 a2 a3 a4 a5 a6)):Calls Tryz.prog 71 #[.func (.func 72) #[] #[.pointer (some ⟨c,0,none⟩)]] w (ah3 w a0 a1 a2 a3 a4 a5 a6):=by
 have hcall:=Y0 a0 a1 a2 a3 a4 a5 a6 c w hc;have zN:=ah hcall;clear hc hcall;go_enter Tryz.func71,Tryz.ntmps71;go_wp2_with fail;refine zN.out.mono ?_;rintro e1 w1 ⟨hk,⟨hr,s,F,rfl,hs,hb⟩|⟨hr,rfl⟩⟩
 ·have HK:=ah hk;have HBF:=ah hb;have hm:=pQ w1.heap.size _ (au.new w1 53 #[.int .i64 0]);have HM:=ah hm;clear hk hm hb;go_wp2_with (go_at_call 50;refine HM.out.mono ?_;rintro e2 w2 ⟨rfl,rfl⟩);go_ret;exact ⟨HK.out.alloc HK.out.size _,.inl ⟨hr,_,F,rfl,hs,HBF.out.below ((Below.refl _ w1).alloc (aN) _)⟩⟩
 ·have HK:=ah hk;have hm:=qA w1.heap.size 2 (by decide) _ (au.new w1 53 #[.int .i64 2]);have HM:=ah hm;clear hk hm;go_wp2_with (go_at_call 50;refine HM.out.mono ?_;rintro e2 w2 ⟨rfl,rfl⟩);exact ⟨rfl,HK.out.alloc HK.out.size _,.inr ⟨hr,rfl⟩⟩
def Re (w:World) (a0 a1 a2 a3 a4 a5 a6:Int) (e:Ending) (w':World):Prop:=
 Below w.heap.size w w'∧
  (
   (dR a0 a1 a2 a3 a4 a5 a6=true∧∃ge,∃F:Fp,e= .returned (.tuple #[.pointer (some ⟨ge,0,none⟩),.int .i64 0])∧ny w' F ge (sZ a0 a1 a2 a3 a4 a5 a6) dK gq 0∧∀k,F k→w.heap.size≤k)∨
   (dR a0 a1 a2 a3 a4 a5 a6=false∧e= .returned (.tuple #[.pointer none,.int .i64 2])))
theorem Jh (w W:World) (a0 a1 a2 a3 a4 a5 a6:Int) (T:Array Value) (v4:Value) (h2:T[2]? =some (.pointer none)) (h3:T[3]? =some (.pointer (some ⟨w.heap.size+1,0,none⟩)))
 (he:au W (w.heap.size+1) 53 #[v4]) (hB:Below w.heap.size w W) (hR:dR a0 a1 a2 a3 a4 a5 a6=false):
 bodyPostD Tryz.prog Tryz.f38 (Re w a0 a1 a2 a3 a4 a5 a6) (.panic [{v:= .iface 53 (.int .i64 2),recovered:=false}]) {tmps:=T,defers:= [{target:= .fn (.func 49) #[],args:= #[.pointer (some ⟨w.heap.size+1,0,none⟩)]}]} W:=by
 refine leaves_cons (f:=49) (args:= #[.pointer (some ⟨w.heap.size+1,0,none⟩)]) (by simp) (by simp[go_sem]) ?_;refine (lY _ (2:Int) _ W he).mono ?_;rintro e u' w'' ⟨rfl,rfl,rfl⟩;have c4:=(he.av 0 (.int .i64 2)).cell 0;simp at c4;refine ⟨.tuple #[.pointer none,.int .i64 2],?_,hB.setCell (p:=⟨w.heap.size+1,0,none⟩) (by simp) _,.inr ⟨hR,rfl⟩⟩;simp[results,Tryz.results38,go_sem,h2,h3,c4]
set_option maxRecDepth 100000 in
set_option maxHeartbeats 1000000 in
theorem EO (a0 a1 a2 a3 a4 a5 a6:Int) (w:World):Calls Tryz.prog 38 #[.agg (wK a0 a1 a2 a3 a4 a5 a6)] w (Re w a0 a1 a2 a3 a4 a5 a6):=by
 have hB0:=((Below.refl w.heap.size w).alloc (aN) (.cells (wK a0 a1 a2 a3 a4 a5 a6) 23)).alloc (by simp) (.cells #[.int .i64 0] 53);have bc0:=(au.new w 23 (wK a0 a1 a2 a3 a4 a5 a6)).alloc (.cells #[.int .i64 0] 53);have zi:au ((w.alloc (.cells (wK a0 a1 a2 a3 a4 a5 a6) 23)).alloc (.cells #[.int .i64 0] 53)) (w.heap.size+1) 53 #[.int .i64 0]:=by simpa using au.new (w.alloc (.cells (wK a0 a1 a2 a3 a4 a5 a6) 23)) 53 #[.int .i64 0]
 unfold wK at*;have HB0:=ah hB0;have BC0:=ah bc0;have BE0:=ah zi;clear hB0 bc0 zi
 go_enter_defers Tryz.func38,Tryz.ntmps38
 go_wp2_with fail;generalize (w.alloc (.cells #[.int .i64 a0,.int .i64 a1,.int .i64 a2,.int .i64 a3,.int .i64 a4,.int .i64 a5,.int .i64 a6] 23)).alloc (.cells #[.int .i64 0] 53)=w0 at*;refine (Y1 a0 a1 a2 a3 a4 a5 a6 w.heap.size w0 BC0.out).mono ?_;rintro e1 w1 ⟨hk1,h1⟩;have hB1:Below w.heap.size w w1:=HB0.out.trans (hk1.mono HB0.out.size);have bc1:au w1 w.heap.size 23 (wK a0 a1 a2 a3 a4 a5 a6):=BC0.out.below hk1 BC0.out.lt;have uX:=BE0.out.below hk1 BE0.out.lt;have aoO:=BE0.out.lt;have hsz:=HB0.out.size;clear hk1 HB0 BC0 BE0;rcases h1 with ⟨hr,s,rfl,hs,hb⟩|⟨hr,rfl⟩
 ·have BC:=ah bc1;have BE:=ah uX;have HB:=ah hB1;have HS:=ah hb;have hsl:=hb.lt s rfl;clear bc1 uX hB1 hb;go_wp2_with fail;refine (Y2 a0 a1 a2 a3 a4 a5 a6 w.heap.size w1 BC.out).mono ?_;rintro e2 w2 ⟨hk2,h2⟩;rcases h2 with ⟨_,r,Fr,rfl,hFr,hrf⟩|⟨hr',_⟩
  ·have hz2:=hk2.size;have hB2:Below w.heap.size w w2:=HB.out.trans (hk2.mono HB.out.size);have qV:=BE.out.below hk2 BE.out.lt;have hs2:=HS.out.below hk2;have Rf:∀k,k≠w.heap.size+1→k<w2.heap.size→((w2.setCell ⟨w.heap.size+1,0,none⟩ (.int .i64 0)).alloc (.cells #[.pointer (some ⟨s,0,none⟩),.pointer (some ⟨r,0,none⟩)] 52)).heap[k]? =w2.heap[k]? :=fun k hk hl=>(Below.heap_alloc _ _ _ (by simpa using hl)).trans (Below.heap_setCell _ _ _ _ hk)
   have hs3:=hs2.stay (w':=(w2.setCell ⟨w.heap.size+1,0,none⟩ (.int .i64 0)).alloc (.cells #[.pointer (some ⟨s,0,none⟩),.pointer (some ⟨r,0,none⟩)] 52)) fun k hk=>by
    have e:k=s:=hk;subst e;exact Rf k (by omega) (by omega)
   have hr3:=hrf.stay (w':=(w2.setCell ⟨w.heap.size+1,0,none⟩ (.int .i64 0)).alloc (.cells #[.pointer (some ⟨s,0,none⟩),.pointer (some ⟨r,0,none⟩)] 52)) fun k hk=>Rf k (by have:=hFr k hk;omega) (hrf.lt k hk)
   have hB3:=(hB2.setCell (p:=⟨w.heap.size+1,0,none⟩) (by simp) (.int .i64 0)).alloc (by have:=hB2.size;simpa using this) (.cells #[.pointer (some ⟨s,0,none⟩),.pointer (some ⟨r,0,none⟩)] 52);have hzz:(w2.setCell ⟨w.heap.size+1,0,none⟩ (.int .i64 0)).heap.size=w2.heap.size:=by simp
   have ba3:=au.new (w2.setCell ⟨w.heap.size+1,0,none⟩ (.int .i64 0)) 52 #[.pointer (some ⟨s,0,none⟩),.pointer (some ⟨r,0,none⟩)];rw[hzz] at ba3;clear hzz;have pX:=(qV.av 0 (.int .i64 0)).alloc (.cells #[.pointer (some ⟨s,0,none⟩),.pointer (some ⟨r,0,none⟩)] 52);have hen:ny ((w2.setCell ⟨w.heap.size+1,0,none⟩ (.int .i64 0)).alloc (.cells #[.pointer (some ⟨s,0,none⟩),.pointer (some ⟨r,0,none⟩)] 52)) ⟨fun k=>k=w2.heap.size∨k=s∨Fr k,Fr⟩ w2.heap.size (sZ a0 a1 a2 a3 a4 a5 a6) dK gq 0:=
    ⟨s,r,(·=s),Fr,ba3,hs3,hr3,fun k hk hk2=>by have e:k=s:=hk;have:=hFr k hk2;omega,fun e=>by have e':w2.heap.size=s:=e;omega,fun e=>by have:=hrf.lt _ e;omega,fun k=>Iff.rfl,fun k=>Iff.rfl⟩
   have hge:∀k,k=w2.heap.size∨k=s∨Fr k→w.heap.size≤k:=fun k hk=>by
    rcases hk with e|e|e
    ·omega
    ·omega
    ·have:=hFr k e;omega
   have hel:=qV.lt;have c4:=qV.cell 0;have f4:=qV.frozen 0;have c5:=pX.cell 0;simp at c4 c5;have H3:=ah hB3;have Kl:=ah hen;have Mi:=ah hge;have HC5:=ah c5;clear hB3 ba3 hs3 hr3 pX qV hs2 hB2 hk2 BE HB HS BC c5 hen hge Rf hrf hFr;go_wp2;refine leaves_cons (f:=49) (args:= #[.pointer (some ⟨w.heap.size+1,0,none⟩)]) (by simp) (by simp[go_sem]) ?_;refine (oL _ _).mono ?_;rintro e9 u9 w9 ⟨rfl,rfl,rfl⟩;have q:=HC5.out;refine ⟨.tuple #[.pointer (some ⟨w2.heap.size,0,none⟩),.int .i64 0],by simp[results,Tryz.results38,go_sem,q],H3.out,.inl ⟨hr,_,_,rfl,Kl.out,Mi.out⟩⟩
  ·rw[hr] at hr';cases hr'
 ·go_wp2;exact Jh w _ a0 a1 a2 a3 a4 a5 a6 _ _ rfl rfl uX hB1 hr
end
section
open Go.RowKit Go.Shelf
attribute [local go_sem] Oper.semAt_some
theorem ah5 (u0 u1 u2 u3 u4 u5 u6 u7 u8 u9:Value) (w:World):(Instr.field 65 (.agg #[u0,u1,u2,u3,u4,u5,u6,u7,u8,u9]) 8).run Tryz.prog w= .ok u8 w:=by kernel_rfl
theorem ah6 (u0 u1 u2 u3 u4 u5 u6 u7 u8 u9:Value) (w:World):(Instr.field 65 (.agg #[u0,u1,u2,u3,u4,u5,u6,u7,u8,u9]) 9).run Tryz.prog w= .ok u9 w:=by kernel_rfl
attribute [local go_sem] ah5 ah6
section
variable {w:World} {gs gr ge n K:Nat} {c:Cf} {s:Sd} {r:Rc} {Fs Fr:Nat→Prop} {F:Fp}
theorem pR (h:au w ge 52 #[.pointer (some ⟨gs,0,none⟩),.pointer (some ⟨gr,0,none⟩)]):Calls Tryz.prog 48 #[.pointer (some ⟨ge,0,none⟩)] w fun e w'=>e= .returned (.bool false)∧w=w':=by
 have x1:=h.cell 1;simp at x1;clear h;go_enter Tryz.func48,Tryz.ntmps48;go_wp2;go_ret;exact ⟨rfl,rfl⟩
set_option maxHeartbeats 1000000 in
theorem wW (h:ny w F ge c s r n) (ho:fq c s K):Calls Tryz.prog 27 #[.pointer (some ⟨ge,0,none⟩)] w fun e w'=>e= .returned (.agg (R4 s))∧Below w.heap.size w w':=by
 obtain ⟨gs,gr,Fs,Fr,h1,h2,_⟩:=h;have hB:=(Below.refl w.heap.size w).alloc (aN) (.cells #[.int .i64 0,.int .i64 0,.int .i64 0,.int .i64 0,.int .i64 0,.bool false,.int .i64 0,.bool false,.int .i64 0,.bool false] 65);have HZ:=ah (au.new w 65 #[.int .i64 0,.int .i64 0,.int .i64 0,.int .i64 0,.int .i64 0,.bool false,.int .i64 0,.bool false,.int .i64 0,.bool false]);have h1':=h1.alloc (.cells #[.int .i64 0,.int .i64 0,.int .i64 0,.int .i64 0,.int .i64 0,.bool false,.int .i64 0,.bool false,.int .i64 0,.bool false] 65);have x0:=h1'.cell 0;simp at x0;have HN:=ah (pR h1');have hS:=Nj (h2.below hB) ho;unfold R4 at hS ⊢;generalize (if s.wait=true then ((s.polled:Nat):Int) else 0)=q1 at hS ⊢;generalize (if s.wait=true then s.iA else 0)=q2 at hS ⊢;have HS:=ah hS;have HB:=ah hB;clear h1 h2 ho hS hB h1';go_enter Tryz.func27,Tryz.ntmps27;go_wp2_with (go_at_call 48;refine HN.out.mono ?_;rintro e1 w1 ⟨rfl,rfl⟩);generalize w.alloc (.cells #[.int .i64 0,.int .i64 0,.int .i64 0,.int .i64 0,.int .i64 0,.bool false,.int .i64 0,.bool false,.int .i64 0,.bool false] 65)=w0 at*;refine HS.out.mono ?_;rintro e2 w2 ⟨rfl,hb2⟩;have hz2:=HZ.out.below hb2 HZ.out.lt;have hbk:Below w.heap.size w w2:=HB.out.trans (hb2.mono HB.out.size)
 have hr:au ((((((((((w2.setCell ⟨w.heap.size,0,none⟩ (.int .i64 (s.first:Nat))).setCell ⟨w.heap.size,1,none⟩ (.int .i64 (bZ s:Nat))).setCell ⟨w.heap.size,2,none⟩ (.int .i64 (s.dX:Nat))).setCell ⟨w.heap.size,3,none⟩ (.int .i64 (s.bytes:Nat))).setCell ⟨w.heap.size,4,none⟩ (.int .i64 q1)).setCell ⟨w.heap.size,5,none⟩ (.bool s.wait)).setCell ⟨w.heap.size,6,none⟩ (.int .i64 q2)).setCell ⟨w.heap.size,7,none⟩ (.bool s.fH)).setCell ⟨w.heap.size,8,none⟩ (.int .i64 (s.done:Nat))).setCell ⟨w.heap.size,9,none⟩ (.bool s.failed)) w.heap.size 65 #[.int .i64 (s.first:Nat),.int .i64 (bZ s:Nat),.int .i64 (s.dX:Nat),.int .i64 (s.bytes:Nat),.int .i64 q1,.bool s.wait,.int .i64 q2,.bool s.fH,.int .i64 (s.done:Nat),.bool s.failed]:=by simpa using ((((((((((hz2.av 0 (.int .i64 (s.first:Nat))).av 1 (.int .i64 (bZ s:Nat))).av 2 (.int .i64 (s.dX:Nat))).av 3 (.int .i64 (s.bytes:Nat))).av 4 (.int .i64 q1)).av 5 (.bool s.wait)).av 6 (.int .i64 q2)).av 7 (.bool s.fH)).av 8 (.int .i64 (s.done:Nat))).av 9 (.bool s.failed))
 have c0:=hr.cell 0;have c1:=hr.cell 1;have c2:=hr.cell 2;have c3:=hr.cell 3;have c4:=hr.cell 4;have c5:=hr.cell 5;have c6:=hr.cell 6;have c7:=hr.cell 7;have c8:=hr.cell 8;have c9:=hr.cell 9;simp at c0 c1 c2 c3 c4 c5 c6 c7 c8 c9;have HC:=ah (And.intro c0 (And.intro c1 (And.intro c2 (And.intro c3 (And.intro c4 (And.intro c5 (And.intro c6 (And.intro c7 (And.intro c8 c9)))))))));clear c0 c1 c2 c3 c4 c5 c6 c7 c8 c9 hr;have HR:=ah ((((((((((hbk.setCell (p:=⟨w.heap.size,0,none⟩) (aN) (.int .i64 (s.first:Nat))).setCell (p:=⟨w.heap.size,1,none⟩) (aN) (.int .i64 (bZ s:Nat))).setCell (p:=⟨w.heap.size,2,none⟩) (aN) (.int .i64 (s.dX:Nat))).setCell (p:=⟨w.heap.size,3,none⟩) (aN) (.int .i64 (s.bytes:Nat))).setCell (p:=⟨w.heap.size,4,none⟩) (aN) (.int .i64 q1)).setCell (p:=⟨w.heap.size,5,none⟩) (aN) (.bool s.wait)).setCell (p:=⟨w.heap.size,6,none⟩) (aN) (.int .i64 q2)).setCell (p:=⟨w.heap.size,7,none⟩) (aN) (.bool s.fH)).setCell (p:=⟨w.heap.size,8,none⟩) (aN) (.int .i64 (s.done:Nat))).setCell (p:=⟨w.heap.size,9,none⟩) (aN) (.bool s.failed));have z0:=hz2.cell 0;have f0:=hz2.frozen 0;have z1:=hz2.cell 1;have f1:=hz2.frozen 1;have z2:=hz2.cell 2;have f2:=hz2.frozen 2;have z3:=hz2.cell 3;have f3:=hz2.frozen 3;have z4:=hz2.cell 4;have f4:=hz2.frozen 4;have z5:=hz2.cell 5;have f5:=hz2.frozen 5;have z6:=hz2.cell 6;have f6:=hz2.frozen 6;have z7:=hz2.cell 7;have f7:=hz2.frozen 7;have z8:=hz2.cell 8;have f8:=hz2.frozen 8;have z9:=hz2.cell 9;have f9:=hz2.frozen 9
 simp at z0 z1 z2 z3 z4 z5 z6 z7 z8 z9;clear hz2 hbk hb2;go_wp2;obtain ⟨c0,c1,c2,c3,c4,c5,c6,c7,c8,c9⟩:=HC.out;refine bodyPost_ret (v:= .agg #[.int .i64 (s.first:Nat),.int .i64 (bZ s:Nat),.int .i64 (s.dX:Nat),.int .i64 (s.bytes:Nat),.int .i64 q1,.bool s.wait,.int .i64 q2,.bool s.fH,.int .i64 (s.done:Nat),.bool s.failed]) ?_ rfl ?_
 ·simp[results,Tryz.results27,go_sem,c0,c1,c2,c3,c4,c5,c6,c7,c8,c9]
 ·exact ⟨rfl,HR.out⟩
theorem Ji (h:ny w F ge c s r n) (ho:fq c s K):Calls Tryz.prog 16 #[.pointer (some ⟨ge,0,none⟩)] w fun e w'=>e= .returned (.bool s.failed)∧Below w.heap.size w w':=by
 have hs:=wW h ho;unfold R4 at hs;generalize (if s.wait=true then ((s.polled:Nat):Int) else 0)=q1 at hs;generalize (if s.wait=true then s.iA else 0)=q2 at hs;have HS:=ah hs;clear h ho hs;go_enter Tryz.func16,Tryz.ntmps16;go_wp2_with (go_at_call 27;refine HS.out.mono ?_;rintro e2 w2 ⟨rfl,hb2⟩);go_ret;exact ⟨rfl,hb2⟩
theorem jc (h:ny w F ge c s r n) (ho:fq c s K):Calls Tryz.prog 25 #[.pointer (some ⟨ge,0,none⟩)] w fun e w'=>e= .returned (.int .i64 (s.done:Nat))∧Below w.heap.size w w':=by
 have hs:=wW h ho;unfold R4 at hs;generalize (if s.wait=true then ((s.polled:Nat):Int) else 0)=q1 at hs;generalize (if s.wait=true then s.iA else 0)=q2 at hs;have HS:=ah hs;clear h ho hs;go_enter Tryz.func25,Tryz.ntmps25;go_wp2_with (go_at_call 27;refine HS.out.mono ?_;rintro e2 w2 ⟨rfl,hb2⟩);go_ret;exact ⟨rfl,hb2⟩
theorem Gr (h:ny w F ge c s r n) (now:Int):Calls Tryz.prog 24 #[.pointer (some ⟨ge,0,none⟩),.int .i64 now] w fun e w'=>e= .returned (.bool (tO r now))∧Below w.heap.size w w':=by
 obtain ⟨gs,gr,Fs,Fr,h1,_,h3,_⟩:=h;have x1:=h1.cell 1;simp at x1;have HN:=ah (pR h1);have HS:=ah (yU h3 now);clear h1 h3;go_enter Tryz.func24,Tryz.ntmps24;go_wp2_with (first
  |(go_at_call 48;refine HN.out.mono ?_;rintro e1 w1 ⟨rfl,rfl⟩)
  |(go_at_call 53;refine HS.out.mono ?_;rintro e2 w2 ⟨rfl,hb2⟩))
 go_ret;exact ⟨rfl,hb2⟩
end
end
section
open Go.RowKit Go.Shelf
attribute [local go_sem] Oper.semAt_some
structure zQ (w:World) (F F':Fp) (ge:Nat) (c:Cf) (s:Sd) (r:Rc) (n:Nat) (x:Value) (W:World):Prop where
 en:ny W F' ge c s r n
 gr:∀k,F' k→F k∨w.heap.size<k
 bs:∀k,F'.b k→F.b k
 kp:Kept (fun k o=>(F k∧(U8 o→F.b k))∨w.heap.size≤k) w W
 bx:au W w.heap.size 53 #[x]
 lt:∀k,F k→k<w.heap.size
section
variable {w W W':World} {ge n n2:Nat} {c:Cf} {s s2:Sd} {r r2:Rc} {F F':Fp} {x:Value}
theorem zQ.start (h:ny w F ge c s r n) (x:Value):zQ w F F ge c s r n x (w.alloc (.cells #[x] 53)):=
 ⟨h.below ((Below.refl _ w).alloc (aN) _),fun _k hk=> .inl hk,fun _ e=>e,(Kept.refl _ w).alloc _,au.new w _ _,h.lt⟩
theorem zQ.nbx (h:zQ w F F' ge c s r n x W):¬F' w.heap.size:=fun e=>by
 rcases h.gr _ e with e|e
 ·have:=h.lt _ e;omega
 ·omega
theorem zQ.more (h:zQ w F F' ge c s r n x W) (hb:Below W.heap.size W W'):zQ w F F' ge c s r n x W':=
 ⟨h.en.below hb,h.gr,h.bs,h.kp.trans (Kept.dP hb),h.bx.below hb h.bx.lt,h.lt⟩
theorem zQ.put (h:zQ w F F' ge c s r n x W) (u:Value):zQ w F F' ge c s r n u (W.setCell ⟨w.heap.size,0,none⟩ u):=
 ⟨h.en.stay fun k hk=>Below.heap_setCell _ _ _ _ fun e=>h.nbx (by rw[←show k=w.heap.size from e];exact hk),h.gr,h.bs,h.kp.setCell (p:=⟨w.heap.size,0,none⟩) (fun _ _=> .inr (aN)) u,by simpa using h.bx.av 0 u,h.lt⟩
theorem zQ.call (h:zQ w F F' ge c s r n x W) (hG:Oy W F' ge c s2 r2 n2 W'):∃F2,zQ w F F2 ge c s2 r2 n2 x W':=by
 obtain ⟨F2,a1,a2,ab,a3⟩:=hG;have hb:=h.bx.lt;refine ⟨F2,a1,fun k hk=> ?_,fun k hk=>h.bs k (ab k hk),h.kp.trans (a3.mono fun k o hk=> ?_),(jh a3 hb fun _ e=>h.nbx e.1).trans h.bx,h.lt⟩
 ·rcases a2 k hk with e|e
  ·exact h.gr k e
  ·exact .inr (by omega)
 ·rcases h.gr k hk.1 with e|e
  ·exact .inl ⟨e,fun u=>h.bs k (hk.2 u)⟩
  ·exact .inr (by omega)
theorem zQ.done (h:zQ w F F' ge c s r n x W):Oy w F ge c s r n W:=
 ⟨F',h.en,fun k hk=>(h.gr k hk).imp id fun e=>by omega,h.bs,h.kp.gH fun k o ho hk=>by
  rcases hk with e|e
  ·exact e
  ·have:=lt_of_heap ho;omega⟩
end
section
variable {w:World} {gs gr ge n K:Nat} {c:Cf} {s:Sd} {r:Rc} {Fs Fr:Nat→Prop} {F:Fp}
theorem yX (h:ny w F ge c s r n) (ho:fq c s K) {A:Option Addr} {m cc:Nat} {x:List UInt8} (hx:Sl w w.heap.size A m cc (bQ x)):
 Calls Tryz.prog 21 #[.pointer (some ⟨ge,0,none⟩),.slice A m cc] w fun e w'=>e= .returned (.int .i64 (aW c s x).2)∧Oy w F ge c (aW c s x).1 r n w':=by
 obtain ⟨gs,gr,Fs,Fr,h1,h2,h3,h4,h5,h6,hF⟩:=h;have x0:=h1.cell 0;simp at x0;have HN:=ah (pR h1);have HS:=ah (Lb h2 ho hx);have HE:=ah (fun w' (hG:Q8 w Fs gs c (aW c s x).1 w')=>ny.snd h1 h2 h3 h4 h5 h6 hF hG);clear h1 h2 ho h3 h4 h5 h6 hF hx;go_enter Tryz.func21,Tryz.ntmps21;go_wp2_with (first
  |(go_at_call 48;refine HN.out.mono ?_;rintro e1 w1 ⟨rfl,rfl⟩)
  |(go_at_call 58;refine HS.out.mono ?_;rintro e2 w2 ⟨rfl,hG⟩))
 go_ret;exact ⟨rfl,HE.out _ hG⟩
end
end
section
open Go.RowKit Go.Shelf
attribute [local go_sem] Oper.semAt_some
section
variable {w:World} {gs gr ge n K:Nat} {c:Cf} {s:Sd} {r:Rc} {Fs Fr:Nat→Prop} {F:Fp}
def GrE (w:World) (F:Fp) (ge:Nat) (c:Cf) (n:Nat) (R:Sd × Rc × List UInt8 × Int) (e:Ending) (w':World):Prop:=
 ∃v,e= .returned (.tuple #[v,.int .i64 R.2.2.2])∧w'.ownsRow w.heap.size 5 1 v R.2.2.1.length (bQ R.2.2.1)∧Oy w F ge c R.1 R.2.1 n w'
theorem uT {Q:Ending→World→Prop} (W:World) (b:Nat) (v x:Value) (T:Array Value) (h6:T[6]? =some v) (h7:T[7]? =some (.pointer (some ⟨b,0,none⟩))) (he:au W b 53 #[x]) (hQ:Q (.returned (.tuple #[v,x])) W):
 bodyPostD Tryz.prog Tryz.f18 Q .ret {tmps:=T,defers:= [{target:= .fn (.func 49) #[],args:= #[.pointer (some ⟨b,0,none⟩)]}]} W:=by
 refine leaves_cons (f:=49) (args:= #[.pointer (some ⟨b,0,none⟩)]) (by simp) (by simp[go_sem]) ?_;refine (oL _ _).mono ?_;rintro e9 u9 w9 ⟨rfl,rfl,rfl⟩;have c0:=he.cell 0;simp at c0;exact ⟨.tuple #[v,x],by simp[results,Tryz.results18,go_sem,h6,h7,c0],hQ⟩
theorem Gs {Q:Ending→World→Prop} (W:World) (b:Nat) (v x:Value) (er:Int) (T:Array Value) (h6:T[6]? =some v) (h7:T[7]? =some (.pointer (some ⟨b,0,none⟩))) (he:au W b 53 #[x]) (hQ:Q (.returned (.tuple #[v,.int .i64 er])) (W.setCell ⟨b,0,none⟩ (.int .i64 er))):
 bodyPostD Tryz.prog Tryz.f18 Q (.panic [{v:= .iface 53 (.int .i64 er),recovered:=false}]) {tmps:=T,defers:= [{target:= .fn (.func 49) #[],args:= #[.pointer (some ⟨b,0,none⟩)]}]} W:=by
 refine leaves_cons (f:=49) (args:= #[.pointer (some ⟨b,0,none⟩)]) (by simp) (by simp[go_sem]) ?_;refine (lY _ er _ W he).mono ?_;rintro e u' w'' ⟨rfl,rfl,rfl⟩;have c0:=(he.av 0 (.int .i64 er)).cell 0;simp at c0;exact ⟨.tuple #[v,.int .i64 er],by simp[results,Tryz.results18,go_sem,h6,h7,c0],hQ⟩
set_option maxRecDepth 100000 in
set_option maxHeartbeats 2000000 in
theorem Cy (h:ny w F ge c s r n) (ho:fq c s K) (hK:K≤80000) (hr:tC c r) (now N:Int) (dM:now≤9223372036854775807) (hN:N≤9223372036854775807):
 Calls Tryz.prog 18 #[.pointer (some ⟨ge,0,none⟩),.int .i64 now,.int .i64 N] w (GrE w F ge c n (aM c s r now N)):=by
 have hE:=zQ.start h (.int .i64 0);have hF:=Ji hE.en ho;obtain ⟨gs,gr,Fs,Fr,h1,h2,h3,h4,h5,h6,GB⟩:=id hE.en;have HN:=ah (pR h1);have HE:=ah hE;obtain ⟨fl,hfl⟩:∃fl,s.failed=fl:=⟨_,rfl⟩
 rw[hfl] at hF;have HF:=ah hF;cases fl with
 |true=>
  have hfin:aM c s r now N=(s,r,[],8):=by unfold aM;rw[if_pos hfl]
  rw[hfin];clear h ho hr hE hF h1 h2 h3 h4 h5 h6 GB hfl hfin
  go_enter_defers Tryz.func18,Tryz.ntmps18
  go_wp2_with (go_at_call 48;refine HN.out.mono ?_;rintro e1 w1 ⟨rfl,rfl⟩);refine HF.out.mono ?_;rintro e2 w2 ⟨rfl,hb2⟩;have hE2:=HE.out.more hb2;have c0:=hE2.bx.cell 0;have f0:=hE2.bx.frozen 0;have Rh:=hE2.put (.int .i64 8);have c3:=Rh.bx.cell 0;simp at c0 c3;go_wp2_with fail;exact ⟨.tuple #[.slice none 0 0,.int .i64 8],by simp[results,Tryz.results18,go_sem,c3],_,rfl,World.ownsRow_nil _ _ _ _,Rh.done⟩
 |false=>
  by_cases hn:N<0
  ·have hfin:aM c s r now N=(s,r,[],2):=by unfold aM;rw[if_neg (by simp[hfl]),if_pos hn]
   rw[hfin];clear h ho hr hE hF h1 h2 h3 h4 h5 h6 GB hfl hfin
   go_enter_defers Tryz.func18,Tryz.ntmps18
   go_wp2_with (go_at_call 48;refine HN.out.mono ?_;rintro e1 w1 ⟨rfl,rfl⟩);refine HF.out.mono ?_;rintro e2 w2 ⟨rfl,hb2⟩;have hE2:=HE.out.more hb2;have c0:=hE2.bx.cell 0;have f0:=hE2.bx.frozen 0;have Rh:=hE2.put (.int .i64 2);have c3:=Rh.bx.cell 0;simp at c0 c3;go_wp2_with fail;exact ⟨.tuple #[.slice none 0 0,.int .i64 2],by simp[results,Tryz.results18,go_sem,c3],_,rfl,World.ownsRow_nil _ _ _ _,Rh.done⟩
  ·have hn':decide (N<0)=false:=decide_eq_false hn;obtain ⟨R,hR⟩:∃R,fM c s now=R:=⟨_,rfl⟩
   obtain ⟨G,hGG⟩:∃G,aM c s r now N=G:=⟨_,rfl⟩
   have hfin:aM c s r now N=if R.2≠0 then (R.1,r,[],R.2)
    else if tO (cZ c r now) now=true∧2≤N then (R.1,(dS c (cZ c r now) now N).1,(dS c (cZ c r now) now N).2.1,((dS c (cZ c r now) now N).2.2:Nat))
    else ((bV c R.1 now N).1,cZ c r now,IU (bV c R.1 now N).2.1,(bV c R.1 now N).2.2):=by
    unfold aM;rw[if_neg (by simp[hfl]),if_neg hn,hR]
   rw[hGG] at hfin ⊢;have ho2:=ho.tick now dM;rw[hR] at ho2;have jJ:=ah hfin;have HO:=ah ho;have R9:=ah ho2;have HR:=ah hr;have HRR:=ah hR;clear h ho ho2 hr hE hF h1 h2 h3 h4 h5 h6 GB hfl hfin hR hGG
   go_enter_defers Tryz.func18,Tryz.ntmps18
   go_wp2_with (go_at_call 48;refine HN.out.mono ?_;rintro e1 w1 ⟨rfl,rfl⟩);refine HF.out.mono ?_;rintro e2 w2 ⟨rfl,hb2⟩;have hE2:=HE.out.more hb2;obtain ⟨gs2,gr2,Fs2,Fr2,h1,h2,h3,h4,h5,h6,GB⟩:=id hE2.en;have x0:=h1.cell 0;simp at x0;have hT:=Q9 h2 HO.out (by omega) now dM;rw[HRR.out] at hT;have HT:=ah hT;have HS:=ah (fun w' (hG:Q8 w2 Fs2 gs2 c R.1 w')=>hE2.call (ny.snd h1 h2 h3 h4 h5 h6 GB hG));clear hE2 h1 h2 h3 h4 h5 h6 GB hT hb2 HN HE HF HO;go_wp2_with fail;refine HT.out.mono ?_;rintro e3 w3 ⟨rfl,hG⟩;obtain ⟨F3,Rh⟩:=HS.out _ hG;have V5:=ah (Rh.more ((Below.refl _ w3).alloc (aN) (.cells #[.int .i64 R.2] 53)));clear Rh hG HS HT x0 HRR;obtain ⟨R1,R2⟩:=R;dsimp only at V5 jJ R9 ⊢;by_cases Ob:R2=0
   ·subst Ob;have HM:=ah (pQ w3.heap.size _ (au.new w3 53 #[.int .i64 0]));obtain ⟨gs4,gr4,Fs4,Fr4,h1,h2,h3,h4,h5,h6,GB⟩:=id V5.out.en;have x1:=h1.cell 1;simp at x1;have HT:=ah (Ra h3 HR.out now dM);have HS:=ah (fun w' (hG:RcK (w3.alloc (.cells #[.int .i64 0] 53)) Fr4 gr4 n c (cZ c r now) w')=>V5.out.call (ny.rcv h1 h2 h3 h4 h5 h6 GB hG));clear h1 h2 h3 h4 h5 h6 GB V5;go_wp2_with (go_at_call 50;refine HM.out.mono ?_;rintro e4 w4 ⟨rfl,rfl⟩);refine HT.out.mono ?_;rintro e5 w5 ⟨rfl,pW⟩;obtain ⟨F5,hE5⟩:=HS.out _ pW;have HE6:=ah (hE5.more ((Below.refl _ w5).alloc (aN) (.cells #[.int .i64 0] 53)));have X4:=ah (pQ w5.heap.size _ (au.new w5 53 #[.int .i64 0]));obtain ⟨gs6,gr6,Fs6,Fr6,h1,h2,h3,h4,h5,h6,GB⟩:=id HE6.out.en;have y0:=h1.cell 0;have y1:=h1.cell 1;simp at y0 y1;have HP:=ah (yU h3 now);clear hE5 pW HS HT HM x1 h1 h2 h3 h4 h5 h6 GB;go_wp2_with (go_at_call 50;refine X4.out.mono ?_;rintro e6 w6 ⟨rfl,rfl⟩);refine HP.out.mono ?_;rintro e7 w7 ⟨rfl,oZ⟩;have V6:=HE6.out.more oZ;have Xg:=ah V6.kp.size;obtain ⟨gs7,gr7,Fs7,Fr7,h1,h2,h3,h4,h5,h6,GB⟩:=id V6.en;have z0:=h1.cell 0;have z1:=h1.cell 1;simp at z0 z1;clear oZ HE6 X4 HP y0 y1;obtain ⟨pd,Oq⟩:∃pd,tO (cZ c r now) now=pd:=⟨_,rfl⟩
    have hG0:=jJ.out;rw[if_neg (by simp),Oq] at hG0;rw[Oq];clear Oq;cases pd with
    |false=>
     have hg:=hG0;rw[if_neg (by simp)] at hg;clear hG0;have XD:=ah (EN h2 R9.out (by omega) now N dM hN);have V7:=ah (fun w' (hG:Q8 w7 Fs7 gs7 c (bV c R1 now N).1 w')=>V6.call (ny.snd h1 h2 h3 h4 h5 h6 GB hG));have HG:=ah hg;clear hg V6 h1 h2 h3 h4 h5 h6 GB;go_wp2_with fail;refine XD.out.mono ?_;rintro e8 w8 ⟨v8,rfl,JU,Ov⟩;obtain ⟨F8,Jj⟩:=V7.out _ Ov;have c8:=Jj.bx.cell 0;have f8:=Jj.bx.frozen 0;simp at c8;have V8:=ah (Jj.put (.int .i64 (bV c R1 now N).2.2));have Sf:=ah (aU (aL (i:=0) JU Jj.bx (by decide) (.int .i64 (bV c R1 now N).2.2)) Xg.out);clear Jj Ov JU V7;go_wp2_with fail;refine uT _ _ _ _ _ rfl rfl V8.out.bx ?_;rw[HG.out];exact ⟨_,rfl,Sf.out,V8.out.done⟩
    |true=>
     by_cases h2N:2≤N
     ·have hg:=hG0;rw[if_pos ⟨rfl,h2N⟩] at hg;have d2:decide (2≤N)=true:=decide_eq_true h2N;clear hG0;have XD:=ah (NW h3 (HR.out.goes dM) now dM N hN);have V7:=ah (fun w' (hG:RcK w7 Fr7 gr7 n c (dS c (cZ c r now) now N).1 w')=>V6.call (ny.rcv h1 h2 h3 h4 h5 h6 GB hG));have HG:=ah hg;clear hg V6 h1 h2 h3 h4 h5 h6 GB;go_wp2_with fail;refine XD.out.mono ?_;rintro e8 w8 ⟨v8,rfl,JU,Ov⟩;obtain ⟨F8,Jj⟩:=V7.out _ Ov;have c8:=Jj.bx.cell 0;have f8:=Jj.bx.frozen 0;simp at c8;have V8:=ah (Jj.put (.int .i64 ((dS c (cZ c r now) now N).2.2:Nat)));have Sf:=ah (aU (aL (i:=0) JU Jj.bx (by decide) (.int .i64 ((dS c (cZ c r now) now N).2.2:Nat))) Xg.out);clear Jj Ov JU V7;go_wp2_with fail;refine uT _ _ _ _ _ rfl rfl V8.out.bx ?_;rw[HG.out];exact ⟨_,rfl,Sf.out,V8.out.done⟩
     ·have hg:=hG0;rw[if_neg (fun hh=>h2N hh.2)] at hg;have d2:decide (2≤N)=false:=decide_eq_false h2N;clear hG0;have XD:=ah (EN h2 R9.out (by omega) now N dM hN);have V7:=ah (fun w' (hG:Q8 w7 Fs7 gs7 c (bV c R1 now N).1 w')=>V6.call (ny.snd h1 h2 h3 h4 h5 h6 GB hG));have HG:=ah hg;clear hg V6 h1 h2 h3 h4 h5 h6 GB;go_wp2_with fail;refine XD.out.mono ?_;rintro e8 w8 ⟨v8,rfl,JU,Ov⟩;obtain ⟨F8,Jj⟩:=V7.out _ Ov;have c8:=Jj.bx.cell 0;have f8:=Jj.bx.frozen 0;simp at c8;have V8:=ah (Jj.put (.int .i64 (bV c R1 now N).2.2));have Sf:=ah (aU (aL (i:=0) JU Jj.bx (by decide) (.int .i64 (bV c R1 now N).2.2)) Xg.out);clear Jj Ov JU V7;go_wp2_with fail;refine uT _ _ _ _ _ rfl rfl V8.out.bx ?_;rw[HG.out];exact ⟨_,rfl,Sf.out,V8.out.done⟩
   ·have HM:=ah (qA w3.heap.size R2 (by simpa using Ob) _ (au.new w3 53 #[.int .i64 R2]));have hg:G=(R1,r,[],R2):=by rw[jJ.out,if_pos Ob]
    have HG:=ah hg;clear Ob hg;go_wp2_with (go_at_call 50;refine HM.out.mono ?_;rintro e4 w4 ⟨rfl,rfl⟩);refine Gs _ _ _ _ _ _ rfl rfl V5.out.bx ?_;rw[HG.out];exact ⟨_,rfl,World.ownsRow_nil _ _ _ _,(V5.out.put _).done⟩
end
end
section
open Go.RowKit Go.Shelf
attribute [local go_sem] Oper.semAt_some
theorem Jk {bs:List UInt8} {aJ er:Nat}:∀(f:Nat) (more:Bool) (pos:Nat) (acc:List Nk),mW bs aJ f more pos acc= .inl er→er=5∨er=9
 |0,false,_,_,h=>by simp[mW] at h
 |_+1,false,_,_,h=>by simp[mW] at h
 |0,true,_,_,h=>by simp[mW] at h;omega
 |f+1,true,pos,acc,h=>by
  rw[mW] at h;split at h
  ·cases h;exact .inl rfl
  ·split at h
   ·exact Jk f _ _ _ h
   ·cases h;exact .inr rfl
theorem Ri {bs:List UInt8} {er:Nat} (h:kL bs= .inl er):er=5∨er=9:=by
 unfold kL at h;split at h
 ·cases h;exact .inl rfl
 split at h
 ·cases h;exact .inr rfl
 split at h
 ·cases h;exact Jk _ _ _ _ (by assumption)
 ·split at h
  ·cases h
  ·cases h;exact .inr rfl
theorem Gt (b:Nat) (A:Option Addr) (n cc:Nat) (bs:List UInt8) (w:World) (hb:au w b 31 #[.slice A n cc]) (hs:Sl w w.heap.size A n cc (bQ bs)) (hsm:n≤1000000):
 Calls Tryz.prog 91 #[.pointer (some ⟨b,0,none⟩)] w (Kc w (kL bs)):=by
 have hB0:=(Below.refl w.heap.size w).alloc (aN) (.cells #[.int .i64 0,.slice none 0 0] 133);have hcall:=Ip A n cc bs _ ((hs.below hB0).more hB0.size) hsm;have b0:=au.new w 133 #[.int .i64 0,.slice none 0 0];have x0:=(hb.alloc (.cells #[.int .i64 0,.slice none 0 0] 133)).cell 0;simp at x0;have zN:=ah hcall;have HB0:=ah hB0;have B0:=ah b0;clear hcall hB0 hb hs b0;go_enter Tryz.func91,Tryz.ntmps91;go_wp2_with fail;refine zN.out.mono ?_;rintro e1 w1 ⟨hk,⟨er,hr,rfl⟩|⟨aJ,l,A',c',hr,rfl,hn,hfr⟩⟩
 ·have b1:=B0.out.below hk B0.out.lt;have c0:=b1.cell 0;have c1:=b1.cell 1;have f0:=b1.frozen 0;have f1:=b1.frozen 1;have b2:=(b1.av 0 (.int .i64 0)).av 1 (.slice none 0 0);simp at b2;have d0:=b2.cell 0;have d1:=b2.cell 1;simp at c0 c1 d0 d1;have HK:=ah hk;have HZ:=ah (show w.heap.size≤(w.alloc (.cells #[.int .i64 0,.slice none 0 0] 133)).heap.size by simp);clear hk b1 b2;go_wp2_with fail;refine bodyPost_ret (v:= .tuple #[.agg #[.int .i64 0,.slice none 0 0],.int .i64 er]) ?_ rfl ?_
  ·simp[results,Tryz.results91,go_sem,d0,d1]
  ·exact ⟨((HB0.out.trans (HK.out.mono HZ.out)).setCell (p:=⟨w.heap.size,0,none⟩) (aN) _).setCell (p:=⟨w.heap.size,1,none⟩) (aN) _,.inl ⟨er,hr,rfl⟩⟩
 ·have b1:=B0.out.below hk B0.out.lt;have c0:=b1.cell 0;have c1:=b1.cell 1;have f0:=b1.frozen 0;have f1:=b1.frozen 1;have b2:=(b1.av 0 (.int .i64 aJ)).av 1 (.slice A' l.length c');simp at b2;have d0:=b2.cell 0;have d1:=b2.cell 1;simp at c0 c1 d0 d1;have HK:=ah hk;have HZ:=ah (show (w.alloc (.cells #[.int .i64 0,.slice none 0 0] 133)).heap.size=w.heap.size+1 by simp);have hn2:bX ((w1.setCell ⟨w.heap.size,0,none⟩ (.int .i64 aJ)).setCell ⟨w.heap.size,1,none⟩ (.slice A' l.length c')) A' l.length c' l:=
   have hne:∀ad,A'=some ad→ad.block≠w.heap.size:=fun ad e=>by have:=hfr ad e;have:=HZ.out;omega
   (hn.qQ hne _).qQ hne _
  have HN:=ah hn2;have HF:=ah hfr;clear hk b1 b2 hn hn2 hfr;go_wp2_with fail;refine bodyPost_ret (v:= .tuple #[.agg #[.int .i64 aJ,.slice A' l.length c'],.int .i64 0]) ?_ rfl ?_
  ·simp[results,Tryz.results91,go_sem,d0,d1]
  ·exact ⟨((HB0.out.trans (HK.out.mono (by have:=HZ.out;omega))).setCell (p:=⟨w.heap.size,0,none⟩) (aN) _).setCell (p:=⟨w.heap.size,1,none⟩) (aN) _,.inr ⟨aJ,l,A',c',hr,rfl,HN.out,fun ad e=>by have:=HF.out ad e;have:=HZ.out;omega⟩⟩
def adD (w:World) (R:Sum Nat (Nat × List Nk)) (e:Ending) (w':World):Prop:=
 Below w.heap.size w w'∧((∃er:Nat,R= .inl er∧e=raise er)∨
  (∃(aJ:Nat) (l:List Nk) (A:Option Addr) (c:Nat),R= .inr (aJ,l)∧e= .returned (.agg #[.int .i64 aJ,.slice A l.length c])∧bX w' A l.length c l∧∀ad,A=some ad→w.heap.size≤ad.block))
set_option maxRecDepth 100000 in
theorem Ld (b:Nat) (A:Option Addr) (n cc:Nat) (bs:List UInt8) (w:World) (hb:au w b 31 #[.slice A n cc]) (hs:Sl w w.heap.size A n cc (bQ bs)) (hsm:n≤1000000):
 Calls Tryz.prog 90 #[.func (.func 91) #[] #[.pointer (some ⟨b,0,none⟩)]] w (adD w (kL bs)):=by
 have hB0:=(Below.refl w.heap.size w).alloc (aN) (.cells #[.int .i64 0,.slice none 0 0] 133);have hcall:=Gt b A n cc bs _ (hb.alloc (.cells #[.int .i64 0,.slice none 0 0] 133)) ((hs.below hB0).more hB0.size) hsm;have b0:=au.new w 133 #[.int .i64 0,.slice none 0 0];have HZ:=ah (show (w.alloc (.cells #[.int .i64 0,.slice none 0 0] 133)).heap.size=w.heap.size+1 by simp);have HER:=ah (fun er=> @Ri bs er);have zN:=ah hcall;have HB0:=ah hB0;have B0:=ah b0;clear hcall hB0 hb hs b0;go_enter Tryz.func90,Tryz.ntmps90;go_wp2_with fail;refine zN.out.mono ?_;rintro e1 w1 ⟨hk,⟨er,hr,rfl⟩|⟨aJ,l,A',c',hr,rfl,hn,hfr⟩⟩
 ·have hB1:Below w.heap.size w w1:=HB0.out.trans (hk.mono (by have:=HZ.out;omega));have Ob:((er:Int) !=0)=true:=by rcases HER.out er hr with e|e<;>subst e<;>rfl
  have hB2:=(hB1.alloc hB1.size (.cells #[.int .i64 0,.slice none 0 0] 133)).alloc (by have:=hB1.size;simp;omega) (.cells #[.int .i64 er] 53);have hbe:=au.new (w1.alloc (.cells #[.int .i64 0,.slice none 0 0] 133)) 53 #[.int .i64 er];rw[World.size_alloc] at hbe;have HM:=ah (qA (w1.heap.size+1) (er:Int) Ob _ hbe);clear hbe;have HB2:=ah hB2;have HR:=ah hr;clear hk hB1 hB2 Ob hr;go_wp2_with (go_at_call 50;refine HM.out.mono ?_;rintro e2 w2 ⟨rfl,rfl⟩);exact ⟨rfl,HB2.out,.inl ⟨er,HR.out,rfl⟩⟩
 ·have hB1:Below w.heap.size w w1:=HB0.out.trans (hk.mono (by have:=HZ.out;omega));have b1:=B0.out.below hk B0.out.lt;have hB2:=(hB1.alloc hB1.size (.cells #[.int .i64 aJ,.slice A' l.length c'] 133)).alloc (by have:=hB1.size;simp;omega) (.cells #[.int .i64 0] 53);have b2:=(b1.alloc (.cells #[.int .i64 aJ,.slice A' l.length c'] 133)).alloc (.cells #[.int .i64 0] 53);have hn2:=(hn.alloc (.cells #[.int .i64 aJ,.slice A' l.length c'] 133)).alloc (.cells #[.int .i64 0] 53);have hbe:=au.new (w1.alloc (.cells #[.int .i64 aJ,.slice A' l.length c'] 133)) 53 #[.int .i64 0];rw[World.size_alloc] at hbe;have HM:=ah (pQ (w1.heap.size+1) _ hbe);clear hbe;have q1:=(au.new w1 133 #[.int .i64 aJ,.slice A' l.length c']).alloc (.cells #[.int .i64 0] 53);have q0:=q1.cell 0;have q0':=q1.cell 1;have c0:=b2.cell 0;have c1:=b2.cell 1;have f0:=b2.frozen 0;have f1:=b2.frozen 1;have b3:=(b2.av 0 (.int .i64 aJ)).av 1 (.slice A' l.length c');simp at b3;have d0:=b3.cell 0;have d1:=b3.cell 1;simp at c0 c1 d0 d1 q0 q0';have hne:∀ad,A'=some ad→ad.block≠w.heap.size:=fun ad e=>by have:=hfr ad e;have:=HZ.out;omega
  have HN:=ah ((hn2.qQ (o:=0) hne (.int .i64 aJ)).qQ (o:=1) hne (.slice A' l.length c'));have HB2:=ah hB2;have HF:=ah hfr;clear hk b1 b2 b3 hn hn2 hfr hB1 hB2 q1 hne;go_wp2_with (go_at_call 50;refine HM.out.mono ?_;rintro e2 w2 ⟨rfl,rfl⟩);refine bodyPost_ret (v:= .agg #[.int .i64 aJ,.slice A' l.length c']) ?_ rfl ?_
  ·simp[results,Tryz.results90,go_sem,d0,d1]
  ·exact ⟨(HB2.out.setCell (p:=⟨w.heap.size,0,none⟩) (aN) _).setCell (p:=⟨w.heap.size,1,none⟩) (aN) _,.inr ⟨aJ,l,A',c',hr,rfl,HN.out,fun ad e=>by have:=HF.out ad e;have:=HZ.out;omega⟩⟩
def ah8 (w:World) (F:Fp) (ge:Nat) (c:Cf) (s:Sd) (r:Rc) (n:Nat) (now:Int) (R:Sum Nat (Nat × List Nk)) (e:Ending) (w':World):Prop:=
 (∃er:Nat,R= .inl er∧e=raise er∧Below w.heap.size w w')∨
 (∃Q:Nat × List Nk,R= .inr Q∧e= .returned (.tuple #[.slice none 0 0,.int .i64 (dL c s now (Q.1:Nat) Q.2).2])∧Oy w F ge c (dL c s now (Q.1:Nat) Q.2).1 r n w')
section
variable {w:World} {gs gr ge n K:Nat} {c:Cf} {s:Sd} {r:Rc} {Fs Fr:Nat→Prop} {F:Fp}
theorem Oy.since {w W w':World} {ge n:Nat} {c:Cf} {s:Sd} {r:Rc} {F:Fp} (h:Oy W F ge c s r n w') (hb:Below w.heap.size w W):Oy w F ge c s r n w':=
 let ⟨F',a1,a2,ab,a3⟩:=h
 ⟨F',a1,fun k hk=>(a2 k hk).imp id fun e=>Nat.le_trans hb.size e,ab,(Kept.dP hb).trans a3⟩
theorem BS.drew' {w:World} {Fs:Nat→Prop} {g:Nat} {c:Cf} {s:Sd} (h:BS w Fs g c s):BS w.drew Fs g c s:=h.stay fun _ _=>rfl
theorem wT.drew' {w:World} {Fr:Nat→Prop} {g n:Nat} {c:Cf} {r:Rc} (h:wT w Fr g n c r):wT w.drew Fr g n c r:=h.stay fun _ _=>rfl
set_option maxRecDepth 100000 in
set_option maxHeartbeats 1000000 in
theorem Jl (h:ny w F ge c s r n) (ho:fq c s K) (hK:K≤90000) (now:Int) (dM:now≤9223372036854775807) (A:Option Addr) (m cc:Nat) (bs:List UInt8) (hs:Sl w w.heap.size A m cc (bQ bs)) (hsm:m≤1000000):
 Calls Tryz.prog 56 #[.pointer (some ⟨ge,0,none⟩),.int .i64 now,.slice A m cc] w (ah8 w F ge c s r n now (kL bs)):=by
 have hB0:=(Below.refl w.heap.size w).alloc (aN) (.cells #[.slice A m cc] 31);have hcall:=Ld w.heap.size A m cc bs _ (au.new w 31 #[.slice A m cc]) ((hs.below hB0).more hB0.size) hsm;have HZ:=ah (show (w.alloc (.cells #[.slice A m cc] 31)).heap.size=w.heap.size+1 by simp);have HLT:=ah h.lt;have zN:=ah hcall;have HB0:=ah hB0;have HE:=ah h;clear hcall hB0 hs h;go_enter Tryz.func56,Tryz.ntmps56;go_wp2_with fail;refine zN.out.mono ?_;rintro e1 w1 ⟨hk,⟨er,hr,rfl⟩|⟨aJ,l,A',c',hr,rfl,hn,hfr⟩⟩
 ·have hB1:Below w.heap.size w w1:=HB0.out.trans (hk.mono (by have:=HZ.out;omega));have HR:=ah hr;clear hr;go_wp2_with fail;exact ⟨rfl,.inl ⟨er,HR.out,rfl,hB1⟩⟩
 ·have hB1:Below w.heap.size w w1:=HB0.out.trans (hk.mono (by have:=HZ.out;omega));obtain ⟨W,hW⟩:∃W,w1.alloc (.cells #[.int .i64 aJ,.slice A' l.length c'] 133)=W:=⟨_,rfl⟩
  have hB2:Below w.heap.size w W:=by rw[←hW];exact hB1.alloc hB1.size _
  have hE2:=HE.out.below hB2;have bs2:au W w1.heap.size 133 #[.int .i64 aJ,.slice A' l.length c']:=by rw[←hW];exact au.new w1 _ _
  have hn2:bX W A' l.length c' l:=by rw[←hW];exact hn.alloc _
  obtain ⟨gs,gr,Fs,Fr,h1,h2,h3,h4,h5,h6,hF⟩:=id hE2;have x0:=h1.cell 0;have y0:=bs2.cell 0;have y1:=bs2.cell 1;simp at x0 y0 y1;have Qm:W.drew.cell? ⟨ge,0,none⟩=some (.pointer (some ⟨gs,0,none⟩)):=x0;have y0':W.drew.cell? ⟨w1.heap.size,0,none⟩=some (.int .i64 aJ):=y0;have y1':W.drew.cell? ⟨w1.heap.size,1,none⟩=some (.slice A' l.length c'):=y1;have hst:=Lc (w:=W.drew) h2.drew' ho hK now (aJ:Int) dM A' l.length c' l (hn2.drewN 1) (fun ad e _ hf=>by
   have h7:=hfr ad e;have h8:=HLT.out ad.block ((hF.1 ad.block).2 (.inr (.inl hf)));have:=HZ.out;omega)
  have HST:=ah hst;have HS:=ah (fun w' (hG:Q8 W.drew Fs gs c (dL c s now (aJ:Int) l).1 w')=>ny.snd (w:=W.drew) h1 h2.drew' h3.drew' h4 h5 h6 hF hG);have HB2:=ah hB2;have HR:=ah hr;clear hk hB1 hB2 hE2 bs2 hn2 h1 h2 h3 h4 h5 h6 hF hst hfr hn HE hr;go_upto_region 2 with fail
  clear hW
  go_region_law (go_simp;(with_reducible refine HST.out.mono ?_);rintro e4 w4 ⟨rfl,hG4⟩)
  all_goals
   have hE4:=HS.out _ hG4;have V5:=ah hE4;clear hE4 hG4;go_wp2_with fail;refine bodyPost_ret (v:= .tuple #[.slice none 0 0,.int .i64 (dL c s now (aJ:Int) l).2]) ?_ rfl ?_
   ·simp[results,Tryz.results56,go_sem,Act.put]
   ·exact .inr ⟨(aJ,l),HR.out,rfl,V5.out.since HB2.out.drew⟩
end
end
end Go.Proofs.YtbhiklnljiehiaaGreat
