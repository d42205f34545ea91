/- An acknowledged mode entity in memory: a. -/
import Derived.Test.YtbhiklnljiehiaaGreatM2bo
namespace Go.Proofs.YtbhiklnljiehiaaGreat
section
open Go.RowKit Go.Shelf
section
variable {w w' w'':World} {T:Nat→Nat} {g M n n' gs gr ge K B:Nat} {c:Cf} {s s':Sd} {st st' r r':Rc} {vo v:Value} {F Fs Fr F':Nat→Prop}
def uT (w:World) (F:Nat→Prop) (g n:Nat) (c:Cf) (st:Rc):Prop:=∃T M vo,gI w T g M n c st vo∧∀k,F k↔T k≠0
theorem uT.lt (h:uT w F g n c st):∀k,F k→k<w.heap.size:=fun k hk=>by
 obtain ⟨T,M,vo,h,hF⟩:=h;exact h.lt k ((hF k).1 hk)
theorem uT.stay (h:uT w F g n c st) (hk:∀k,F k→w'.heap[k]? =w.heap[k]?):uT w' F g n c st:=by
 obtain ⟨T,M,vo,h,hF⟩:=h;exact ⟨T,M,vo,h.stay fun k hk'=>hk k ((hF k).2 hk'),hF⟩
theorem iN {M:Nat→Obj→Prop} (hk:Kept M w w') {k:Nat} (hl:k<w.heap.size) (hm:∀o,¬M k o):w'.heap[k]? =w.heap[k]? :=by
 have e:=Array.getElem?_eq_getElem hl;rw[e];exact hk.same _ _ e (hm _)
theorem uT.below (h:uT w F g n c st) (hb:Below w.heap.size w w'):uT w' F g n c st:=h.stay fun k hk=>hb.block k (h.lt k hk)
theorem uT.of (h:gI w' T g M n c st vo):uT w' (fun k=>T k≠0) g n c st:=⟨T,M,vo,h,fun _=>Iff.rfl⟩
structure uU (c:Cf) (st:Rc):Prop where
 cf:YZ c
 ok:dP st
 sz:sU st
theorem uU.recv (h:uU c st) {now:Int} (hn:now≤9223372036854775807) (bs:List UInt8):uU c (jH c st now bs).1:=⟨h.cf,h.ok.recv c hn bs,h.sz.recv c now bs⟩
theorem uU.ny (h:uU c st) {now:Int} (hn:now≤9223372036854775807) (N:Int):uU c (fG c st now N).1:=⟨h.cf,h.ok.ny c hn N,h.sz.ny c now N⟩
theorem uU.goes (h:uU c st) {now:Int} (hn:now≤9223372036854775807):uU c (dI c st now):=⟨h.cf,h.ok.goes c hn,h.sz.Qw (uP c st now)⟩
theorem wW (h:uT w F g n c st) (now:Int):
 Calls Tryz.prog 53 #[.pointer (some ⟨g,0,none⟩),.int .i64 now] w fun e w'=>e= .returned (.bool (rG st now))∧Below w.heap.size w w':=
 let ⟨_,_,_,h,_⟩:=h
 EK h now
end
end
section
open Go.RowKit Go.Shelf
attribute [local go_sem] Oper.semAt_some
structure Fp where
 a:Nat→Prop
 b:Nat→Prop
instance:CoeFun Fp (fun _=>Nat→Prop):=⟨Fp.a⟩
def U8 (o:Obj):Prop:=∃cs fr,o= .cells cs 5 fr
section
variable {w w' w'':World} {g n n' gs gr ge K B:Nat} {c:Cf} {s s':Sd} {r r':Rc} {v:Value} {Fs Fr:Nat→Prop} {F F':Fp}
def NN (w:World) (Fs:Nat→Prop) (g:Nat) (c:Cf) (st:Sd) (w':World):Prop:=∃F',xL w' F' g c st∧bW w Fs F'∧Kept (fun k o=>Fs k∧¬U8 o) w w'
theorem kX.gw {vq vo:Value} {vs os:List Value} {st:Sd} (h:dV w (minD g vq vo os) Fs g c s vq vs vo os) (ho:kX w (minD g vq vo os) Fs g c st w'):NN w Fs g c st w':=by
 obtain ⟨D',F',JI,vs',AV,os',h1,_,h3,h4⟩:=ho;exact ⟨F',⟨D',JI,vs',AV,os',h1⟩,h3,h4.fE fun k o ho hk=>⟨h.sub k hk,fun ⟨cs,fr,e⟩=>h.min_u8 hk cs fr (by rw[ho,e])⟩⟩
theorem J7 (h:xL w Fs g c s) (ho:dZ c s K) {A:Option Addr} {n cc:Nat} {x:List UInt8} (hx:Sl w w.heap.size A n cc (bO x)):
 Calls Tryz.prog 58 #[.pointer (some ⟨g,0,none⟩),.slice A n cc] w fun e w'=>e= .returned (.int .i64 (dw c s x).2)∧NN w Fs g c (dw c s x).1 w':=by
 obtain ⟨D,vq,vs,vo,os,h⟩:=h;have hh:=ho.bnd.held;have hq:=qM ho.inv.pos;have e:aW s=aj s.queue:=rfl;exact (Gv h.min ho.cf hh (by omega) hx).mono fun e w' hh=>⟨hh.1,hh.2.gw h.min⟩
theorem Hr (h:xL w Fs g c s) (ho:dZ c s K) (hK:K≤90000) (now:Int) (hn:now≤9223372036854775807):
 Calls Tryz.prog 51 #[.pointer (some ⟨g,0,none⟩),.int .i64 now] w fun e w'=>e= .returned (.int .i64 (fF c s now).2)∧NN w Fs g c (fF c s now).1 w':=by
 obtain ⟨D,vq,vs,vo,os,h⟩:=h;exact (MC h.min ho.cf.timer.1 ho.bnd hK ho.inv.w now hn).mono fun e w' hh=>⟨hh.1,hh.2.gw h.min⟩
theorem J8 (h:xL w Fs g c s) (ho:dZ c s K) (hK:K≤90000) (now aL:Int) (hn:now≤9223372036854775807) (A:Option Addr) (n cc:Nat) (dO:List Nk) (hN:bM w A n cc dO) (hAF:∀ad,A=some ad→0<n→¬Fs ad.block):
 Calls Tryz.prog 93 #[.pointer (some ⟨g,0,none⟩),.int .i64 now,.agg #[.int .i64 aL,.slice A n cc]] w fun e w'=>e= .returned (.int .i64 (dB c s now aL dO).2)∧NN w Fs g c (dB c s now aL dO).1 w':=by
 obtain ⟨D,vq,vs,vo,os,h⟩:=h;by_cases hf:s.failed=true
 ·exact (rJ h.min ho.cf.timer.1 now aL A n cc dO hN (.inl hf)).mono fun e w' hh=>⟨hh.1,hh.2.gw h.min⟩
 ·cases hv:dm aL dO with
  |false=>exact (rJ h.min ho.cf.timer.1 now aL A n cc dO hN (.inr hv)).mono fun e w' hh=>⟨hh.1,hh.2.gw h.min⟩
  |true=>exact (GD h.min ho.cf ho.bnd hK ho.inv (by simpa using hf) now aL hn A n cc dO hN (fun ad e hz hd=>hAF ad e hz (h.min.sub _ hd)) hv).mono fun e w' hh=>⟨hh.1,hh.2.gw h.min⟩
theorem Dl (h:xL w Fs g c s) (ho:dZ c s K) (hK:K≤90000) (now n:Int) (eP:now≤9223372036854775807) (hn:n≤9223372036854775807):
 Calls Tryz.prog 55 #[.pointer (some ⟨g,0,none⟩),.int .i64 now,.int .i64 n] w fun e w'=>∃v,e= .returned (.tuple #[v,.int .i64 (dA c s now n).2.2])∧w'.ownsRow w.heap.size 5 1 v (TC (dA c s now n).2.1).length (bO (TC (dA c s now n).2.1))∧NN w Fs g c (dA c s now n).1 w':=by
 obtain ⟨D,vq,vs,vo,os,h⟩:=h;have key:Calls Tryz.prog 55 #[.pointer (some ⟨g,0,none⟩),.int .i64 now,.int .i64 n] w (GR w (minD g vq vo os) Fs g c (dA c s now n)):=by
  by_cases hx:s.failed=true∨n<0
  ·exact EA h.min ho.cf.timer.1 now n hx
  ·have hx':=not_or.1 hx;exact JV h.min ho.cf ho.bnd hK ho.inv (by simpa using hx'.1) now n eP (by omega) hn
 exact key.mono fun e w' hh=>by
  obtain ⟨v,h1,h2,h3⟩:=hh;exact ⟨v,h1,h2,h3.gw h.min⟩
def Yi (w:World) (F:Nat→Prop) (g n:Nat) (c:Cf) (st:Rc) (w':World):Prop:=uT w' F g n c st∧Kept (fun k _=>F k) w w'
theorem Nf (h:uT w Fr g n c r) (ho:uU c r) (now:Int) (eP:now≤9223372036854775807) (N:Int) (hN:N≤9223372036854775807):
 Calls Tryz.prog 54 #[.pointer (some ⟨g,0,none⟩),.int .i64 now,.int .i64 N] w fun e w'=>∃v,e= .returned (.tuple #[v,.int .i64 ((fG c r now N).2.2:Nat)])∧w'.ownsRow w.heap.size 5 1 v (fG c r now N).2.1.length (bO (fG c r now N).2.1)∧Yi w Fr g n c (fG c r now N).1 w':=by
 obtain ⟨T,M,vo,h,hF⟩:=h;refine (J3 h ho.ok ho.sz ho.cf now eP N hN).mono ?_;rintro e w' ⟨v,rfl,hv,hR,hK⟩;exact ⟨v,rfl,hv,⟨T,M,vo,hR,hF⟩,hK.mono fun k o hm=>(hF k).2 hm⟩
theorem Ht (h:uT w Fr g n c r) (ho:uU c r) (now:Int) (eP:now≤9223372036854775807):
 Calls Tryz.prog 52 #[.pointer (some ⟨g,0,none⟩),.int .i64 now] w fun e w'=>e= .returned (.int .i64 0)∧Yi w Fr g n c (dI c r now) w':=by
 obtain ⟨T,M,vo,h,hF⟩:=h;refine (Na h ho.ok ho.cf now eP).mono ?_;rintro e w' ⟨rfl,hR,hK⟩;exact ⟨rfl,⟨T,M,vo,hR,hF⟩,hK.mono fun k o hm=>(hF k).2 hm⟩
def Uk (F:Fp) (ge:Nat) (Fs Fr:Nat→Prop):Prop:=(∀k,F k↔k=ge∨Fs k∨Fr k)∧∀k,F.b k↔Fr k
def kY (w:World) (F:Fp) (ge:Nat) (c:Cf) (s:Sd) (r:Rc) (n:Nat):Prop:=
 ∃gs gr Fs Fr,au w ge 52 #[.pointer (some ⟨gs,0,none⟩),.pointer (some ⟨gr,0,none⟩)]∧xL w Fs gs c s∧uT w Fr gr n c r∧(∀k,Fs k→¬Fr k)∧¬Fs ge∧¬Fr ge∧Uk F ge Fs Fr
def Lh (w:World) (F:Fp) (ge:Nat) (c:Cf) (s:Sd) (r:Rc) (n:Nat) (w':World):Prop:=∃F':Fp,kY w' F' ge c s r n∧bW w F F'∧(∀k,F'.b k→F.b k)∧Kept (fun k o=>F k∧(U8 o→F.b k)) w w'
theorem kY.lt (h:kY w F ge c s r n):∀k,F k→k<w.heap.size:=fun k hk=>by
 obtain ⟨gs,gr,Fs,Fr,h1,h2,h3,_,_,_,hF⟩:=h;rcases (hF.1 k).1 hk with rfl|e|e
 ·exact h1.lt
 ·exact h2.lt k e
 ·exact h3.lt k e
theorem kY.Yj (h:kY w F ge c s r n):∀k,F.b k→F k:=fun k hk=>by
 obtain ⟨gs,gr,Fs,Fr,_,_,_,_,_,_,hF⟩:=h;exact (hF.1 k).2 (.inr (.inr ((hF.2 k).1 hk)))
theorem kY.stay (h:kY w F ge c s r n) (hk:∀k,F k→w'.heap[k]? =w.heap[k]?):kY w' F ge c s r n:=by
 obtain ⟨gs,gr,Fs,Fr,h1,h2,h3,h4,h5,h6,hF⟩:=h;exact ⟨gs,gr,Fs,Fr,(hk ge ((hF.1 ge).2 (.inl rfl))).trans h1,h2.stay fun k e=>hk k ((hF.1 k).2 (.inr (.inl e))),h3.stay fun k e=>hk k ((hF.1 k).2 (.inr (.inr e))),h4,h5,h6,hF⟩
theorem kY.below (h:kY w F ge c s r n) (hb:Below w.heap.size w w'):kY w' F ge c s r n:=h.stay fun k hk=>hb.block k (h.lt k hk)
theorem kY.same (h:kY w F ge c s r n):Lh w F ge c s r n w:=⟨F,h,bW.refl _ _,fun _ e=>e,Kept.refl _ _⟩
theorem kY.snd (h1:au w ge 52 #[.pointer (some ⟨gs,0,none⟩),.pointer (some ⟨gr,0,none⟩)]) (_h2:xL w Fs gs c s) (h3:uT w Fr gr n c r) (h4:∀k,Fs k→¬Fr k) (h5:¬Fs ge) (h6:¬Fr ge) (hF:Uk F ge Fs Fr) (hG:NN w Fs gs c s' w'):Lh w F ge c s' r n w':=by
 obtain ⟨Fs',a1,a2,a3⟩:=hG;refine ⟨⟨fun k=>k=ge∨Fs' k∨Fr k,Fr⟩,⟨gs,gr,Fs',Fr,(iN a3 h1.lt fun _ e=>h5 e.1).trans h1,a1,h3.stay fun k hk=>iN a3 (h3.lt k hk) fun _ e=>h4 k e.1 hk,fun k hk hk2=> ?_,fun e=> ?_,h6,fun _=>Iff.rfl,fun _=>Iff.rfl⟩,fun k hk=> ?_,fun k hk=>(hF.2 k).2 hk,a3.mono fun k _ e=>⟨(hF.1 k).2 (.inr (.inl e.1)),fun u=>absurd u e.2⟩⟩
 ·rcases a2 k hk with e|e
  ·exact h4 k e hk2
  ·have:=h3.lt k hk2;omega
 ·rcases a2 ge e with e|e
  ·exact h5 e
  ·have:=h1.lt;omega
 ·rcases hk with e|e|e
  ·exact .inl ((hF.1 k).2 (.inl e))
  ·rcases a2 k e with e|e
   ·exact .inl ((hF.1 k).2 (.inr (.inl e)))
   ·exact .inr e
  ·exact .inl ((hF.1 k).2 (.inr (.inr e)))
theorem kY.rcv (h1:au w ge 52 #[.pointer (some ⟨gs,0,none⟩),.pointer (some ⟨gr,0,none⟩)]) (h2:xL w Fs gs c s) (_h3:uT w Fr gr n c r) (h4:∀k,Fs k→¬Fr k) (h5:¬Fs ge) (h6:¬Fr ge) (hF:Uk F ge Fs Fr) (hG:Yi w Fr gr n' c r' w'):Lh w F ge c s r' n' w':=by
 obtain ⟨a1,a3⟩:=hG;exact ⟨F,⟨gs,gr,Fs,Fr,(iN a3 h1.lt fun _=>h6).trans h1,h2.stay fun k hk=>iN a3 (h2.lt k hk) fun _ e=>h4 k hk e,a1,h4,h5,h6,hF⟩,bW.refl _ _,fun _ e=>e,a3.mono fun k _ e=>⟨(hF.1 k).2 (.inr (.inr e)),fun _=>(hF.2 k).2 e⟩⟩
end
theorem ko (be:Nat) (w:World):
 CallsD Tryz.prog 49 #[.pointer (some ⟨be,0,none⟩)] .returning w fun e u' w'=>e= .returned (.tuple #[])∧u'= .returning∧w=w':=by
 have hnn:=run_eql_nil_nil (P:=Tryz.prog) w (t:=20) (by kernel_rfl);refine callsD_of_wpS Tryz.func49 rfl fun c₀ cs hu=> ?_
 apply wpS_seq;apply wpS_region;generalize hQ:Exit.thenS _ _=Q;simp[wpOpsS,go_sem,recoverD,hu,Tryz.ntmps49];subst hQ;simp only[Exit.thenS];refine wpS_of_wp ?_;rw[show (#[.pointer (some ⟨be,0,none⟩)]++((Array.replicate 18 undef).setIfInBounds 4 (.nilIface)).setIfInBounds 1 (.nilIface):Array Value)= #[.pointer (some ⟨be,0,none⟩),undef,.nilIface,undef,undef,.nilIface,undef,undef,undef,undef,undef,undef,undef,undef,undef,undef,undef,undef,undef] from by kernel_rfl];change Code.wp _ _ (iY Tryz.prog Tryz.f49 c₀ cs (c₀::cs) _) _ w;go_wp2;cases c₀
 simp_all [iY,bodyPostS,results,Tryz.results49]
set_option maxHeartbeats 400000 in
set_option maxRecDepth 100000 in
theorem iZ (be:Nat) (er:Int) (v4:Value) (w:World) (he:au w be 53 #[v4]):
 CallsD Tryz.prog 49 #[.pointer (some ⟨be,0,none⟩)] (.panicking [{v:= .iface 53 (.int .i64 er),recovered:=false}]) w fun e u' w'=>e= .returned (.tuple #[])∧u'= .panicking [{v:= .iface 53 (.int .i64 er),recovered:=true}]∧
  w.setCell ⟨be,0,none⟩ (.int .i64 er)=w':=by
 have hnn:=run_eql_held_nil (P:=Tryz.prog) w 20 53 (.int .i64 er) (by kernel_rfl);have hta:=kT er w;refine callsD_of_wpS Tryz.func49 rfl fun c₀ cs hu=> ?_
 apply wpS_seq;apply wpS_region;generalize hQ:Exit.thenS _ _=Q;simp[wpOpsS,go_sem,recoverD,hu,Tryz.ntmps49];subst hQ;simp only[Exit.thenS];refine wpS_of_wp ?_;rw[show (#[.pointer (some ⟨be,0,none⟩)]++((Array.replicate 18 undef).setIfInBounds 4 (.iface 53 (.int .i64 er))).setIfInBounds 1 (.iface 53 (.int .i64 er)):Array Value)= #[.pointer (some ⟨be,0,none⟩),undef,.iface 53 (.int .i64 er),undef,undef,.iface 53 (.int .i64 er),undef,undef,undef,undef,undef,undef,undef,undef,undef,undef,undef,undef,undef] from by kernel_rfl];change Code.wp _ _ (iY Tryz.prog Tryz.f49 c₀ cs _ _) _ w;have c4:=he.cell 0;have f4:=he.frozen 0;simp at c4;go_wp2;exact ⟨rfl,_,rfl,.tuple #[],by simp[results,Tryz.results49],rfl,rfl,rfl⟩
theorem nQ (r:Nat) (w:World) (h:au w r 53 #[.int .i64 0]):Calls Tryz.prog 50 #[.slice (some ⟨r,0,none⟩) 1 1] w fun e w'=>e= .returned (.tuple #[])∧w=w':=by
 have c0:=h.cell 0;simp at c0;clear h;go_enter Tryz.func50,Tryz.ntmps50;go_wp2
 go_loop [6] (fun i=>∃k:Nat,k≤1∧i= .int .i64 k) (fun i=>1-(intOf i).toNat)
 case atStart=>exact ⟨0,by decide,rfl⟩
 case round=>
  obtain ⟨k,hk,rfl⟩:=hrel;obtain rfl|rfl:k=0∨k=1:=by omega
  ·go_wp2
   go_round
   case rel=>exact ⟨1,by decide,by go_num⟩
   case measure=>simp[intOf]
  ·go_wp2
   go_end0
   exact ⟨rfl,rfl⟩
theorem oJ (r:Nat) (er:Int) (AL:(er !=0)=true) (w:World) (h:au w r 53 #[.int .i64 er]):Calls Tryz.prog 50 #[.slice (some ⟨r,0,none⟩) 1 1] w fun e w'=>e=raise er∧w=w':=by
 have c0:=h.cell 0;simp at c0;clear h;unfold raise;go_enter Tryz.func50,Tryz.ntmps50;go_wp2
 go_loop [6] (fun i=>i= .int .i64 0) (fun i=>1-(intOf i).toNat)
 case atStart=>rfl
 case round=>
  subst hrel;go_wp2;exact ⟨rfl,rfl,rfl⟩
theorem Am (r:Nat) (er:Int) (w:World) (h:au w r 53 #[.int .i64 0,.int .i64 er]):Calls Tryz.prog 50 #[.slice (some ⟨r,0,none⟩) 2 2] w fun e w'=>(if er=0 then e= .returned (.tuple #[]) else e=raise er)∧w=w':=by
 have c0:=h.cell 0;have c1:=h.cell 1;simp at c0 c1;clear h;unfold raise;by_cases AL:er=0
 ·subst AL;simp only[if_true];go_enter Tryz.func50,Tryz.ntmps50;go_wp2
  go_loop [6] (fun i=>∃k:Nat,k≤2∧i= .int .i64 k) (fun i=>2-(intOf i).toNat)
  case atStart=>exact ⟨0,by decide,rfl⟩
  case round=>
   obtain ⟨k,hk,rfl⟩:=hrel;obtain rfl|rfl|rfl:k=0∨k=1∨k=2:=by omega
   ·go_wp2
    go_round
    case rel=>exact ⟨1,by decide,by go_num⟩
    case measure=>simp[intOf]
   ·go_wp2
    go_round
    case rel=>exact ⟨2,by decide,by go_num⟩
    case measure=>simp[intOf]
   ·go_wp2
    go_end0
    exact ⟨rfl,rfl⟩
 ·have ank:(er !=0)=true:=by simpa using AL
  simp only[if_neg AL];go_enter Tryz.func50,Tryz.ntmps50;go_wp2
  go_loop [6] (fun i=>∃k:Nat,k≤1∧i= .int .i64 k) (fun i=>2-(intOf i).toNat)
  case atStart=>exact ⟨0,by decide,rfl⟩
  case round=>
   obtain ⟨k,hk,rfl⟩:=hrel;obtain rfl|rfl:k=0∨k=1:=by omega
   ·go_wp2
    go_round
    case rel=>exact ⟨1,by decide,by go_num⟩
    case measure=>simp[intOf]
   ·go_wp2;exact ⟨rfl,rfl,rfl⟩
end
section
open Go.RowKit Go.Shelf
attribute [local go_sem] Oper.semAt_some
def Vt (w:World) (a0 a1 a2 a3 a4 a5 a6:Int) (e:Ending) (w':World):Prop:=
 Below w.heap.size w w'∧
  ((dF a0 a1 a2 a3 a4 a5 a6=true∧∃s F,e= .returned (.tuple #[.pointer (some ⟨s,0,none⟩),.int .i64 0])∧(∀k,F k→w.heap.size≤k)∧uT w' F s 0 (nL a0 a1 a2 a3 a4 a5 a6) lM)∨(dF a0 a1 a2 a3 a4 a5 a6=false∧e= .returned (.tuple #[.pointer none,.int .i64 2])))
theorem Ul (a0 a1 a2 a3 a4 a5 a6:Int) (w:World):Calls Tryz.prog 73 #[.agg (vZ a0 a1 a2 a3 a4 a5 a6)] w (Vt w a0 a1 a2 a3 a4 a5 a6):=by
 refine (Qv a0 a1 a2 a3 a4 a5 a6 w).mono ?_;rintro e w' ⟨hb,⟨h1,g,M,T,he,hR,hT⟩|h⟩
 ·exact ⟨hb,.inl ⟨h1,g,_,he,hT,uT.of hR⟩⟩
 ·exact ⟨hb,.inr h⟩
theorem Hu {w:World} {c:Nat} {a0 a1 a2 a3 a4 a5 a6:Int} (hc:au w c 23 (vZ a0 a1 a2 a3 a4 a5 a6)):w.cell? ⟨c,0,none⟩=some (.int .i64 a0)∧w.cell? ⟨c,1,none⟩=some (.int .i64 a1)∧w.cell? ⟨c,2,none⟩=some (.int .i64 a2)∧w.cell? ⟨c,3,none⟩=some (.int .i64 a3)∧w.cell? ⟨c,4,none⟩=some (.int .i64 a4)∧w.cell? ⟨c,5,none⟩=some (.int .i64 a5)∧w.cell? ⟨c,6,none⟩=some (.int .i64 a6):=
 ⟨hc.cell 0,hc.cell 1,hc.cell 2,hc.cell 3,hc.cell 4,hc.cell 5,hc.cell 6⟩
set_option maxRecDepth 100000 in
theorem Yk (a0 a1 a2 a3 a4 a5 a6:Int) (c:Nat) (w:World) (hc:au w c 23 (vZ a0 a1 a2 a3 a4 a5 a6)):Calls Tryz.prog 69 #[.pointer (some ⟨c,0,none⟩)] w (aaV w a0 a1 a2 a3 a4 a5 a6):=by
 have hcall:=Ty a0 a1 a2 a3 a4 a5 a6 w;obtain ⟨x0,x1,x2,x3,x4,x5,x6⟩:=Hu hc;unfold vZ at hcall;have Gy:=ah hcall;clear hc hcall;go_enter Tryz.func69,Tryz.ntmps69;go_wp2_with fail;refine Gy.out.mono ?_;rintro e1 w1 ⟨hk,⟨hr,s,rfl,hs,hb,ho⟩|⟨hr,rfl⟩⟩
 ·go_wp2
  go_ret2
  exact ⟨hk,.inl ⟨hr,_,rfl,hs,hb,ho⟩⟩
 ·go_wp2
  go_ret2
  exact ⟨hk,.inr ⟨hr,rfl⟩⟩
set_option maxRecDepth 100000 in
theorem Yl (a0 a1 a2 a3 a4 a5 a6:Int) (c:Nat) (w:World) (hc:au w c 23 (vZ a0 a1 a2 a3 a4 a5 a6)):Calls Tryz.prog 72 #[.pointer (some ⟨c,0,none⟩)] w (Vt w a0 a1 a2 a3 a4 a5 a6):=by
 have hcall:=Ul a0 a1 a2 a3 a4 a5 a6 w;obtain ⟨x0,x1,x2,x3,x4,x5,x6⟩:=Hu hc;unfold vZ at hcall;have Gy:=ah hcall;clear hc hcall;go_enter Tryz.func72,Tryz.ntmps72;go_wp2_with fail;refine Gy.out.mono ?_;rintro e1 w1 ⟨hk,⟨hr,s,F,rfl,hs,hb⟩|⟨hr,rfl⟩⟩
 ·go_wp2
  go_ret2
  exact ⟨hk,.inl ⟨hr,_,F,rfl,hs,hb⟩⟩
 ·go_wp2
  go_ret2
  exact ⟨hk,.inr ⟨hr,rfl⟩⟩
def agL (w:World) (a0 a1 a2 a3 a4 a5 a6:Int) (e:Ending) (w':World):Prop:=
 Below w.heap.size w w'∧((dF a0 a1 a2 a3 a4 a5 a6=true∧∃s,e= .returned (.pointer (some ⟨s,0,none⟩))∧w.heap.size≤s∧xL w' (·=s) s (nL a0 a1 a2 a3 a4 a5 a6) dY)∨(dF a0 a1 a2 a3 a4 a5 a6=false∧e=raise 2))
theorem Ym (a0 a1 a2 a3 a4 a5 a6:Int) (c:Nat) (w:World) (hc:au w c 23 (vZ a0 a1 a2 a3 a4 a5 a6)):Calls Tryz.prog 68 #[.func (.func 69) #[] #[.pointer (some ⟨c,0,none⟩)]] w (agL w a0 a1 a2 a3 a4 a5 a6):=by
 have hcall:=Yk a0 a1 a2 a3 a4 a5 a6 c w hc;have Gy:=ah hcall;clear hc hcall;go_enter Tryz.func68,Tryz.ntmps68;go_wp2_with fail;refine Gy.out.mono ?_;rintro e1 w1 ⟨hk,⟨hr,s,rfl,hs,hb,_⟩|⟨hr,rfl⟩⟩
 ·have HK:=ah hk;have HBF:=ah hb;have hm:=nQ w1.heap.size _ (au.new w1 53 #[.int .i64 0]);have HM:=ah hm;clear hk hm hb;go_wp2_with (go_at_call 50;refine HM.out.mono ?_;rintro e2 w2 ⟨rfl,rfl⟩);go_ret;exact ⟨HK.out.alloc HK.out.size _,.inl ⟨hr,_,rfl,hs,HBF.out.below ((Below.refl _ w1).alloc (aN) _)⟩⟩
 ·have HK:=ah hk;have hm:=oJ w1.heap.size 2 (by decide) _ (au.new w1 53 #[.int .i64 2]);have HM:=ah hm;clear hk hm;go_wp2_with (go_at_call 50;refine HM.out.mono ?_;rintro e2 w2 ⟨rfl,rfl⟩);exact ⟨rfl,HK.out.alloc HK.out.size _,.inr ⟨hr,rfl⟩⟩
def agM (w:World) (a0 a1 a2 a3 a4 a5 a6:Int) (e:Ending) (w':World):Prop:=
 Below w.heap.size w w'∧((dF a0 a1 a2 a3 a4 a5 a6=true∧∃s F,e= .returned (.pointer (some ⟨s,0,none⟩))∧(∀k,F k→w.heap.size≤k)∧uT w' F s 0 (nL a0 a1 a2 a3 a4 a5 a6) lM)∨(dF a0 a1 a2 a3 a4 a5 a6=false∧e=raise 2))
theorem Yn (a0 a1 a2 a3 a4 a5 a6:Int) (c:Nat) (w:World) (hc:au w c 23 (vZ a0 a1 a2 a3 a4 a5 a6)):Calls Tryz.prog 71 #[.func (.func 72) #[] #[.pointer (some ⟨c,0,none⟩)]] w (agM w a0 a1 a2 a3 a4 a5 a6):=by
 have hcall:=Yl a0 a1 a2 a3 a4 a5 a6 c w hc;have Gy:=ah hcall;clear hc hcall;go_enter Tryz.func71,Tryz.ntmps71;go_wp2_with fail;refine Gy.out.mono ?_;rintro e1 w1 ⟨hk,⟨hr,s,F,rfl,hs,hb⟩|⟨hr,rfl⟩⟩
 ·have HK:=ah hk;have HBF:=ah hb;have hm:=nQ w1.heap.size _ (au.new w1 53 #[.int .i64 0]);have HM:=ah hm;clear hk hm hb;go_wp2_with (go_at_call 50;refine HM.out.mono ?_;rintro e2 w2 ⟨rfl,rfl⟩);go_ret;exact ⟨HK.out.alloc HK.out.size _,.inl ⟨hr,_,F,rfl,hs,HBF.out.below ((Below.refl _ w1).alloc (aN) _)⟩⟩
 ·have HK:=ah hk;have hm:=oJ w1.heap.size 2 (by decide) _ (au.new w1 53 #[.int .i64 2]);have HM:=ah hm;clear hk hm;go_wp2_with (go_at_call 50;refine HM.out.mono ?_;rintro e2 w2 ⟨rfl,rfl⟩);exact ⟨rfl,HK.out.alloc HK.out.size _,.inr ⟨hr,rfl⟩⟩
def QB (w:World) (a0 a1 a2 a3 a4 a5 a6:Int) (e:Ending) (w':World):Prop:=
 Below w.heap.size w w'∧
  (
   (dF a0 a1 a2 a3 a4 a5 a6=true∧∃ge,∃F:Fp,e= .returned (.tuple #[.pointer (some ⟨ge,0,none⟩),.int .i64 0])∧kY w' F ge (nL a0 a1 a2 a3 a4 a5 a6) dY lM 0∧∀k,F k→w.heap.size≤k)∨
   (dF a0 a1 a2 a3 a4 a5 a6=false∧e= .returned (.tuple #[.pointer none,.int .i64 2])))
theorem Hw (w W:World) (a0 a1 a2 a3 a4 a5 a6:Int) (T:Array Value) (v4:Value) (h2:T[2]? =some (.pointer none)) (h3:T[3]? =some (.pointer (some ⟨w.heap.size+1,0,none⟩)))
 (he:au W (w.heap.size+1) 53 #[v4]) (hB:Below w.heap.size w W) (hR:dF a0 a1 a2 a3 a4 a5 a6=false):
 bodyPostD Tryz.prog Tryz.f38 (QB w a0 a1 a2 a3 a4 a5 a6) (.panic [{v:= .iface 53 (.int .i64 2),recovered:=false}]) {tmps:=T,defers:= [{target:= .fn (.func 49) #[],args:= #[.pointer (some ⟨w.heap.size+1,0,none⟩)]}]} W:=by
 refine leaves_cons (f:=49) (args:= #[.pointer (some ⟨w.heap.size+1,0,none⟩)]) (by simp) (by simp[go_sem]) ?_;refine (iZ _ (2:Int) _ W he).mono ?_;rintro e u' w'' ⟨rfl,rfl,rfl⟩;have c4:=(he.av 0 (.int .i64 2)).cell 0;simp at c4;refine ⟨.tuple #[.pointer none,.int .i64 2],?_,hB.setCell (p:=⟨w.heap.size+1,0,none⟩) (by simp) _,.inr ⟨hR,rfl⟩⟩;simp[results,Tryz.results38,go_sem,h2,h3,c4]
set_option maxRecDepth 100000 in
set_option maxHeartbeats 1000000 in
theorem Dm (a0 a1 a2 a3 a4 a5 a6:Int) (w:World):Calls Tryz.prog 38 #[.agg (vZ a0 a1 a2 a3 a4 a5 a6)] w (QB w a0 a1 a2 a3 a4 a5 a6):=by
 have hB0:=((Below.refl w.heap.size w).alloc (aN) (.cells (vZ a0 a1 a2 a3 a4 a5 a6) 23)).alloc (by simp) (.cells #[.int .i64 0] 53);have bc0:=(au.new w 23 (vZ a0 a1 a2 a3 a4 a5 a6)).alloc (.cells #[.int .i64 0] 53);have xE:au ((w.alloc (.cells (vZ a0 a1 a2 a3 a4 a5 a6) 23)).alloc (.cells #[.int .i64 0] 53)) (w.heap.size+1) 53 #[.int .i64 0]:=by simpa using au.new (w.alloc (.cells (vZ a0 a1 a2 a3 a4 a5 a6) 23)) 53 #[.int .i64 0]
 unfold vZ at*;have HB0:=ah hB0;have BC0:=ah bc0;have BE0:=ah xE;clear hB0 bc0 xE
 go_enter_defers Tryz.func38,Tryz.ntmps38
 go_wp2_with fail;generalize (w.alloc (.cells #[.int .i64 a0,.int .i64 a1,.int .i64 a2,.int .i64 a3,.int .i64 a4,.int .i64 a5,.int .i64 a6] 23)).alloc (.cells #[.int .i64 0] 53)=w0 at*;refine (Ym a0 a1 a2 a3 a4 a5 a6 w.heap.size w0 BC0.out).mono ?_;rintro e1 w1 ⟨hk1,h1⟩;have hB1:Below w.heap.size w w1:=HB0.out.trans (hk1.mono HB0.out.size);have bc1:au w1 w.heap.size 23 (vZ a0 a1 a2 a3 a4 a5 a6):=BC0.out.below hk1 BC0.out.lt;have tq:=BE0.out.below hk1 BE0.out.lt;have anl:=BE0.out.lt;have hsz:=HB0.out.size;clear hk1 HB0 BC0 BE0;rcases h1 with ⟨hr,s,rfl,hs,hb⟩|⟨hr,rfl⟩
 ·have BC:=ah bc1;have BE:=ah tq;have HB:=ah hB1;have HS:=ah hb;have hsl:=hb.lt s rfl;clear bc1 tq hB1 hb;go_wp2_with fail;refine (Yn a0 a1 a2 a3 a4 a5 a6 w.heap.size w1 BC.out).mono ?_;rintro e2 w2 ⟨hk2,h2⟩;rcases h2 with ⟨_,r,Fr,rfl,hFr,hrf⟩|⟨hr',_⟩
  ·have hz2:=hk2.size;have hB2:Below w.heap.size w w2:=HB.out.trans (hk2.mono HB.out.size);have pK:=BE.out.below hk2 BE.out.lt;have hs2:=HS.out.below hk2;have QC:∀k,k≠w.heap.size+1→k<w2.heap.size→((w2.setCell ⟨w.heap.size+1,0,none⟩ (.int .i64 0)).alloc (.cells #[.pointer (some ⟨s,0,none⟩),.pointer (some ⟨r,0,none⟩)] 52)).heap[k]? =w2.heap[k]? :=fun k hk hl=>(Below.heap_alloc _ _ _ (by simpa using hl)).trans (Below.heap_setCell _ _ _ _ hk)
   have hs3:=hs2.stay (w':=(w2.setCell ⟨w.heap.size+1,0,none⟩ (.int .i64 0)).alloc (.cells #[.pointer (some ⟨s,0,none⟩),.pointer (some ⟨r,0,none⟩)] 52)) fun k hk=>by
    have e:k=s:=hk;subst e;exact QC k (by omega) (by omega)
   have hr3:=hrf.stay (w':=(w2.setCell ⟨w.heap.size+1,0,none⟩ (.int .i64 0)).alloc (.cells #[.pointer (some ⟨s,0,none⟩),.pointer (some ⟨r,0,none⟩)] 52)) fun k hk=>QC k (by have:=hFr k hk;omega) (hrf.lt k hk)
   have hB3:=(hB2.setCell (p:=⟨w.heap.size+1,0,none⟩) (by simp) (.int .i64 0)).alloc (by have:=hB2.size;simpa using this) (.cells #[.pointer (some ⟨s,0,none⟩),.pointer (some ⟨r,0,none⟩)] 52);have hzz:(w2.setCell ⟨w.heap.size+1,0,none⟩ (.int .i64 0)).heap.size=w2.heap.size:=by simp
   have ba3:=au.new (w2.setCell ⟨w.heap.size+1,0,none⟩ (.int .i64 0)) 52 #[.pointer (some ⟨s,0,none⟩),.pointer (some ⟨r,0,none⟩)];rw[hzz] at ba3;clear hzz;have nS:=(pK.av 0 (.int .i64 0)).alloc (.cells #[.pointer (some ⟨s,0,none⟩),.pointer (some ⟨r,0,none⟩)] 52);have hen:kY ((w2.setCell ⟨w.heap.size+1,0,none⟩ (.int .i64 0)).alloc (.cells #[.pointer (some ⟨s,0,none⟩),.pointer (some ⟨r,0,none⟩)] 52)) ⟨fun k=>k=w2.heap.size∨k=s∨Fr k,Fr⟩ w2.heap.size (nL a0 a1 a2 a3 a4 a5 a6) dY lM 0:=
    ⟨s,r,(·=s),Fr,ba3,hs3,hr3,fun k hk hk2=>by have e:k=s:=hk;have:=hFr k hk2;omega,fun e=>by have e':w2.heap.size=s:=e;omega,fun e=>by have:=hrf.lt _ e;omega,fun k=>Iff.rfl,fun k=>Iff.rfl⟩
   have hge:∀k,k=w2.heap.size∨k=s∨Fr k→w.heap.size≤k:=fun k hk=>by
    rcases hk with e|e|e
    ·omega
    ·omega
    ·have:=hFr k e;omega
   have hel:=pK.lt;have c4:=pK.cell 0;have f4:=pK.frozen 0;have c5:=nS.cell 0;simp at c4 c5;have H3:=ah hB3;have Jn:=ah hen;have HGE:=ah hge;have HC5:=ah c5;clear hB3 ba3 hs3 hr3 nS pK hs2 hB2 hk2 BE HB HS BC c5 hen hge QC hrf hFr;go_wp2;refine leaves_cons (f:=49) (args:= #[.pointer (some ⟨w.heap.size+1,0,none⟩)]) (by simp) (by simp[go_sem]) ?_;refine (ko _ _).mono ?_;rintro e9 u9 w9 ⟨rfl,rfl,rfl⟩;have q:=HC5.out;refine ⟨.tuple #[.pointer (some ⟨w2.heap.size,0,none⟩),.int .i64 0],by simp[results,Tryz.results38,go_sem,q],H3.out,.inl ⟨hr,_,_,rfl,Jn.out,HGE.out⟩⟩
  ·rw[hr] at hr';cases hr'
 ·go_wp2;exact Hw w _ a0 a1 a2 a3 a4 a5 a6 _ _ rfl rfl tq hB1 hr
end
section
open Go.RowKit Go.Shelf
attribute [local go_sem] Oper.semAt_some
theorem agO (u0 u1 u2 u3 u4 u5 u6 u7 u8 u9:Value) (w:World):(Instr.field 65 (.agg #[u0,u1,u2,u3,u4,u5,u6,u7,u8,u9]) 8).run Tryz.prog w= .ok u8 w:=by kernel_rfl
theorem agP (u0 u1 u2 u3 u4 u5 u6 u7 u8 u9:Value) (w:World):(Instr.field 65 (.agg #[u0,u1,u2,u3,u4,u5,u6,u7,u8,u9]) 9).run Tryz.prog w= .ok u9 w:=by kernel_rfl
attribute [local go_sem] agO agP
section
variable {w:World} {gs gr ge n K:Nat} {c:Cf} {s:Sd} {r:Rc} {Fs Fr:Nat→Prop} {F:Fp}
theorem jv (h:au w ge 52 #[.pointer (some ⟨gs,0,none⟩),.pointer (some ⟨gr,0,none⟩)]):Calls Tryz.prog 48 #[.pointer (some ⟨ge,0,none⟩)] w fun e w'=>e= .returned (.bool false)∧w=w':=by
 have x1:=h.cell 1;simp at x1;clear h;go_enter Tryz.func48,Tryz.ntmps48;go_wp2;go_ret;exact ⟨rfl,rfl⟩
set_option maxHeartbeats 1000000 in
theorem uV (h:kY w F ge c s r n) (ho:dZ c s K):Calls Tryz.prog 27 #[.pointer (some ⟨ge,0,none⟩)] w fun e w'=>e= .returned (.agg (Rb s))∧Below w.heap.size w w':=by
 obtain ⟨gs,gr,Fs,Fr,h1,h2,_⟩:=h;have hB:=(Below.refl w.heap.size w).alloc (aN) (.cells #[.int .i64 0,.int .i64 0,.int .i64 0,.int .i64 0,.int .i64 0,.bool false,.int .i64 0,.bool false,.int .i64 0,.bool false] 65);have HZ:=ah (au.new w 65 #[.int .i64 0,.int .i64 0,.int .i64 0,.int .i64 0,.int .i64 0,.bool false,.int .i64 0,.bool false,.int .i64 0,.bool false]);have h1':=h1.alloc (.cells #[.int .i64 0,.int .i64 0,.int .i64 0,.int .i64 0,.int .i64 0,.bool false,.int .i64 0,.bool false,.int .i64 0,.bool false] 65);have x0:=h1'.cell 0;simp at x0;have HN:=ah (jv h1');have hS:=MH (h2.below hB) ho;unfold Rb at hS ⊢;generalize (if s.wait=true then ((s.polled:Nat):Int) else 0)=q1 at hS ⊢;generalize (if s.wait=true then s.fK else 0)=q2 at hS ⊢;have HS:=ah hS;have HB:=ah hB;clear h1 h2 ho hS hB h1';go_enter Tryz.func27,Tryz.ntmps27;go_wp2_with (go_at_call 48;refine HN.out.mono ?_;rintro e1 w1 ⟨rfl,rfl⟩);generalize w.alloc (.cells #[.int .i64 0,.int .i64 0,.int .i64 0,.int .i64 0,.int .i64 0,.bool false,.int .i64 0,.bool false,.int .i64 0,.bool false] 65)=w0 at*;refine HS.out.mono ?_;rintro e2 w2 ⟨rfl,hb2⟩;have hz2:=HZ.out.below hb2 HZ.out.lt;have hbk:Below w.heap.size w w2:=HB.out.trans (hb2.mono HB.out.size)
 have hr:au ((((((((((w2.setCell ⟨w.heap.size,0,none⟩ (.int .i64 (s.first:Nat))).setCell ⟨w.heap.size,1,none⟩ (.int .i64 (bP s:Nat))).setCell ⟨w.heap.size,2,none⟩ (.int .i64 (s.dN:Nat))).setCell ⟨w.heap.size,3,none⟩ (.int .i64 (s.bytes:Nat))).setCell ⟨w.heap.size,4,none⟩ (.int .i64 q1)).setCell ⟨w.heap.size,5,none⟩ (.bool s.wait)).setCell ⟨w.heap.size,6,none⟩ (.int .i64 q2)).setCell ⟨w.heap.size,7,none⟩ (.bool s.eB)).setCell ⟨w.heap.size,8,none⟩ (.int .i64 (s.done:Nat))).setCell ⟨w.heap.size,9,none⟩ (.bool s.failed)) w.heap.size 65 #[.int .i64 (s.first:Nat),.int .i64 (bP s:Nat),.int .i64 (s.dN:Nat),.int .i64 (s.bytes:Nat),.int .i64 q1,.bool s.wait,.int .i64 q2,.bool s.eB,.int .i64 (s.done:Nat),.bool s.failed]:=by simpa using ((((((((((hz2.av 0 (.int .i64 (s.first:Nat))).av 1 (.int .i64 (bP s:Nat))).av 2 (.int .i64 (s.dN:Nat))).av 3 (.int .i64 (s.bytes:Nat))).av 4 (.int .i64 q1)).av 5 (.bool s.wait)).av 6 (.int .i64 q2)).av 7 (.bool s.eB)).av 8 (.int .i64 (s.done:Nat))).av 9 (.bool s.failed))
 have c0:=hr.cell 0;have c1:=hr.cell 1;have c2:=hr.cell 2;have c3:=hr.cell 3;have c4:=hr.cell 4;have c5:=hr.cell 5;have c6:=hr.cell 6;have c7:=hr.cell 7;have c8:=hr.cell 8;have c9:=hr.cell 9;simp at c0 c1 c2 c3 c4 c5 c6 c7 c8 c9;have HC:=ah (And.intro c0 (And.intro c1 (And.intro c2 (And.intro c3 (And.intro c4 (And.intro c5 (And.intro c6 (And.intro c7 (And.intro c8 c9)))))))));clear c0 c1 c2 c3 c4 c5 c6 c7 c8 c9 hr;have HR:=ah ((((((((((hbk.setCell (p:=⟨w.heap.size,0,none⟩) (aN) (.int .i64 (s.first:Nat))).setCell (p:=⟨w.heap.size,1,none⟩) (aN) (.int .i64 (bP s:Nat))).setCell (p:=⟨w.heap.size,2,none⟩) (aN) (.int .i64 (s.dN:Nat))).setCell (p:=⟨w.heap.size,3,none⟩) (aN) (.int .i64 (s.bytes:Nat))).setCell (p:=⟨w.heap.size,4,none⟩) (aN) (.int .i64 q1)).setCell (p:=⟨w.heap.size,5,none⟩) (aN) (.bool s.wait)).setCell (p:=⟨w.heap.size,6,none⟩) (aN) (.int .i64 q2)).setCell (p:=⟨w.heap.size,7,none⟩) (aN) (.bool s.eB)).setCell (p:=⟨w.heap.size,8,none⟩) (aN) (.int .i64 (s.done:Nat))).setCell (p:=⟨w.heap.size,9,none⟩) (aN) (.bool s.failed));have z0:=hz2.cell 0;have f0:=hz2.frozen 0;have z1:=hz2.cell 1;have f1:=hz2.frozen 1;have z2:=hz2.cell 2;have f2:=hz2.frozen 2;have z3:=hz2.cell 3;have f3:=hz2.frozen 3;have z4:=hz2.cell 4;have f4:=hz2.frozen 4;have z5:=hz2.cell 5;have f5:=hz2.frozen 5;have z6:=hz2.cell 6;have f6:=hz2.frozen 6;have z7:=hz2.cell 7;have f7:=hz2.frozen 7;have z8:=hz2.cell 8;have f8:=hz2.frozen 8;have z9:=hz2.cell 9;have f9:=hz2.frozen 9
 simp at z0 z1 z2 z3 z4 z5 z6 z7 z8 z9;clear hz2 hbk hb2;go_wp2;obtain ⟨c0,c1,c2,c3,c4,c5,c6,c7,c8,c9⟩:=HC.out;refine bodyPost_ret (v:= .agg #[.int .i64 (s.first:Nat),.int .i64 (bP s:Nat),.int .i64 (s.dN:Nat),.int .i64 (s.bytes:Nat),.int .i64 q1,.bool s.wait,.int .i64 q2,.bool s.eB,.int .i64 (s.done:Nat),.bool s.failed]) ?_ rfl ?_
 ·simp[results,Tryz.results27,go_sem,c0,c1,c2,c3,c4,c5,c6,c7,c8,c9]
 ·exact ⟨rfl,HR.out⟩
theorem qD (h:kY w F ge c s r n) (ho:dZ c s K):Calls Tryz.prog 16 #[.pointer (some ⟨ge,0,none⟩)] w fun e w'=>e= .returned (.bool s.failed)∧Below w.heap.size w w':=by
 have hs:=uV h ho;unfold Rb at hs;generalize (if s.wait=true then ((s.polled:Nat):Int) else 0)=q1 at hs;generalize (if s.wait=true then s.fK else 0)=q2 at hs;have HS:=ah hs;clear h ho hs;go_enter Tryz.func16,Tryz.ntmps16;go_wp2_with (go_at_call 27;refine HS.out.mono ?_;rintro e2 w2 ⟨rfl,hb2⟩);go_ret;exact ⟨rfl,hb2⟩
theorem qE (h:kY w F ge c s r n) (ho:dZ c s K):Calls Tryz.prog 25 #[.pointer (some ⟨ge,0,none⟩)] w fun e w'=>e= .returned (.int .i64 (s.done:Nat))∧Below w.heap.size w w':=by
 have hs:=uV h ho;unfold Rb at hs;generalize (if s.wait=true then ((s.polled:Nat):Int) else 0)=q1 at hs;generalize (if s.wait=true then s.fK else 0)=q2 at hs;have HS:=ah hs;clear h ho hs;go_enter Tryz.func25,Tryz.ntmps25;go_wp2_with (go_at_call 27;refine HS.out.mono ?_;rintro e2 w2 ⟨rfl,hb2⟩);go_ret;exact ⟨rfl,hb2⟩
theorem rP (h:kY w F ge c s r n) (ho:dZ c s K):Calls Tryz.prog 23 #[.pointer (some ⟨ge,0,none⟩)] w fun e w'=>e= .returned (.int .i64 (IW s))∧Below w.heap.size w w':=by
 obtain ⟨gs,gr,Fs,Fr,h1,h2,_⟩:=h;have x0:=h1.cell 0;simp at x0;have HN:=ah (jv h1);have HS:=ah (Eu h2 ho);clear h1 h2 ho;go_enter Tryz.func23,Tryz.ntmps23;go_wp2_with (first
  |(go_at_call 48;refine HN.out.mono ?_;rintro e1 w1 ⟨rfl,rfl⟩)
  |(go_at_call 59;refine HS.out.mono ?_;rintro e2 w2 ⟨rfl,hb2⟩))
 go_ret;exact ⟨rfl,hb2⟩
theorem uW (h:kY w F ge c s r n) (now:Int):Calls Tryz.prog 24 #[.pointer (some ⟨ge,0,none⟩),.int .i64 now] w fun e w'=>e= .returned (.bool (rG r now))∧Below w.heap.size w w':=by
 obtain ⟨gs,gr,Fs,Fr,h1,_,h3,_⟩:=h;have x1:=h1.cell 1;simp at x1;have HN:=ah (jv h1);have HS:=ah (wW h3 now);clear h1 h3;go_enter Tryz.func24,Tryz.ntmps24;go_wp2_with (first
  |(go_at_call 48;refine HN.out.mono ?_;rintro e1 w1 ⟨rfl,rfl⟩)
  |(go_at_call 53;refine HS.out.mono ?_;rintro e2 w2 ⟨rfl,hb2⟩))
 go_ret;exact ⟨rfl,hb2⟩
end
end
section
open Go.RowKit Go.Shelf
attribute [local go_sem] Oper.semAt_some
structure wu (w:World) (F F':Fp) (ge:Nat) (c:Cf) (s:Sd) (r:Rc) (n:Nat) (x:Value) (W:World):Prop where
 en:kY W F' ge c s r n
 gr:∀k,F' k→F k∨w.heap.size<k
 bs:∀k,F'.b k→F.b k
 kp:Kept (fun k o=>(F k∧(U8 o→F.b k))∨w.heap.size≤k) w W
 bx:au W w.heap.size 53 #[x]
 lt:∀k,F k→k<w.heap.size
section
variable {w W W':World} {ge n n2:Nat} {c:Cf} {s s2:Sd} {r r2:Rc} {F F':Fp} {x:Value}
theorem wu.start (h:kY w F ge c s r n) (x:Value):wu w F F ge c s r n x (w.alloc (.cells #[x] 53)):=
 ⟨h.below ((Below.refl _ w).alloc (aN) _),fun _k hk=> .inl hk,fun _ e=>e,(Kept.refl _ w).alloc _,au.new w _ _,h.lt⟩
theorem wu.nbx (h:wu w F F' ge c s r n x W):¬F' w.heap.size:=fun e=>by
 rcases h.gr _ e with e|e
 ·have:=h.lt _ e;omega
 ·omega
theorem wu.more (h:wu w F F' ge c s r n x W) (hb:Below W.heap.size W W'):wu w F F' ge c s r n x W':=
 ⟨h.en.below hb,h.gr,h.bs,h.kp.trans (Kept.dD hb),h.bx.below hb h.bx.lt,h.lt⟩
theorem wu.put (h:wu w F F' ge c s r n x W) (u:Value):wu w F F' ge c s r n u (W.setCell ⟨w.heap.size,0,none⟩ u):=
 ⟨h.en.stay fun k hk=>Below.heap_setCell _ _ _ _ fun e=>h.nbx (by rw[←show k=w.heap.size from e];exact hk),h.gr,h.bs,h.kp.setCell (p:=⟨w.heap.size,0,none⟩) (fun _ _=> .inr (aN)) u,by simpa using h.bx.av 0 u,h.lt⟩
theorem wu.call (h:wu w F F' ge c s r n x W) (hG:Lh W F' ge c s2 r2 n2 W'):∃F2,wu w F F2 ge c s2 r2 n2 x W':=by
 obtain ⟨F2,a1,a2,ab,a3⟩:=hG;have hb:=h.bx.lt;refine ⟨F2,a1,fun k hk=> ?_,fun k hk=>h.bs k (ab k hk),h.kp.trans (a3.mono fun k o hk=> ?_),(iN a3 hb fun _ e=>h.nbx e.1).trans h.bx,h.lt⟩
 ·rcases a2 k hk with e|e
  ·exact h.gr k e
  ·exact .inr (by omega)
 ·rcases h.gr k hk.1 with e|e
  ·exact .inl ⟨e,fun u=>h.bs k (hk.2 u)⟩
  ·exact .inr (by omega)
theorem wu.done (h:wu w F F' ge c s r n x W):Lh w F ge c s r n W:=
 ⟨F',h.en,fun k hk=>(h.gr k hk).imp id fun e=>by omega,h.bs,h.kp.fE fun k o ho hk=>by
  rcases hk with e|e
  ·exact e
  ·have:=lt_of_heap ho;omega⟩
end
section
variable {w:World} {gs gr ge n K:Nat} {c:Cf} {s:Sd} {r:Rc} {Fs Fr:Nat→Prop} {F:Fp}
theorem Hy (h:kY w F ge c s r n) (ho:dZ c s K) {A:Option Addr} {m cc:Nat} {x:List UInt8} (hx:Sl w w.heap.size A m cc (bO x)):
 Calls Tryz.prog 21 #[.pointer (some ⟨ge,0,none⟩),.slice A m cc] w fun e w'=>e= .returned (.int .i64 (dw c s x).2)∧Lh w F ge c (dw c s x).1 r n w':=by
 obtain ⟨gs,gr,Fs,Fr,h1,h2,h3,h4,h5,h6,hF⟩:=h;have x0:=h1.cell 0;simp at x0;have HN:=ah (jv h1);have HS:=ah (J7 h2 ho hx);have HE:=ah (fun w' (hG:NN w Fs gs c (dw c s x).1 w')=>kY.snd h1 h2 h3 h4 h5 h6 hF hG);clear h1 h2 ho h3 h4 h5 h6 hF hx;go_enter Tryz.func21,Tryz.ntmps21;go_wp2_with (first
  |(go_at_call 48;refine HN.out.mono ?_;rintro e1 w1 ⟨rfl,rfl⟩)
  |(go_at_call 58;refine HS.out.mono ?_;rintro e2 w2 ⟨rfl,hG⟩))
 go_ret;exact ⟨rfl,HE.out _ hG⟩
def rQ (i:Nat) (p:Value) (ds:List Deferred) (S:Exit→World→Prop):Exit→Act→World→Prop
 | .panic c,a,w=>a.tmps[i]? =some p∧a.defers=ds∧S (.panic c) w
 |_,_,_=>False
theorem rQ.put {i:Nat} {p v:Value} {ds:List Deferred} {S:Exit→World→Prop} {d:Nat} (hd:d≠i):∀c a w,rQ i p ds S (.panic c) (a.put (some d) v) w→rQ i p ds S (.panic c) a w:=fun c a w h=>by
 refine ⟨?_,h.2.1,h.2.2⟩;have h1:=h.1;simp only[Act.put] at h1;rw[Array.getElem?_setIfInBounds_ne hd] at h1;exact h1
theorem Ng {Q:Ending→World→Prop} (W:World) (b:Nat) (x:Value) (T:Array Value) (h4:T[4]? =some (.pointer (some ⟨b,0,none⟩))) (he:au W b 53 #[x]) (hQ:Q (.returned x) W):
 bodyPostD Tryz.prog Tryz.f22 Q .ret {tmps:=T,defers:= [{target:= .fn (.func 49) #[],args:= #[.pointer (some ⟨b,0,none⟩)]}]} W:=by
 refine leaves_cons (f:=49) (args:= #[.pointer (some ⟨b,0,none⟩)]) (by simp) (by simp[go_sem]) ?_;refine (ko _ _).mono ?_;rintro e9 u9 w9 ⟨rfl,rfl,rfl⟩;have c0:=he.cell 0;simp at c0;exact ⟨x,by simp[results,Tryz.results22,go_sem,h4,c0],hQ⟩
theorem Hz {Q:Ending→World→Prop} (W:World) (b:Nat) (x:Value) (er:Int) (T:Array Value) (h4:T[4]? =some (.pointer (some ⟨b,0,none⟩))) (he:au W b 53 #[x]) (hQ:Q (.returned (.int .i64 er)) (W.setCell ⟨b,0,none⟩ (.int .i64 er))):
 bodyPostD Tryz.prog Tryz.f22 Q (.panic [{v:= .iface 53 (.int .i64 er),recovered:=false}]) {tmps:=T,defers:= [{target:= .fn (.func 49) #[],args:= #[.pointer (some ⟨b,0,none⟩)]}]} W:=by
 refine leaves_cons (f:=49) (args:= #[.pointer (some ⟨b,0,none⟩)]) (by simp) (by simp[go_sem]) ?_;refine (iZ _ er _ W he).mono ?_;rintro e u' w'' ⟨rfl,rfl,rfl⟩;have c0:=(he.av 0 (.int .i64 er)).cell 0;simp at c0;exact ⟨.int .i64 er,by simp[results,Tryz.results22,go_sem,h4,c0],hQ⟩
set_option maxRecDepth 100000 in
set_option maxHeartbeats 1000000 in
theorem Dn (h:kY w F ge c s r n) (ho:dZ c s K) (hK:K≤90000) (hr:uU c r) (now:Int) (eP:now≤9223372036854775807):
 Calls Tryz.prog 22 #[.pointer (some ⟨ge,0,none⟩),.int .i64 now] w fun e w'=>e= .returned (.int .i64 (fF c s now).2)∧Lh w F ge c (fF c s now).1 (dI c r now) n w':=by
 obtain ⟨R,hR⟩:∃R,fF c s now=R:=⟨_,rfl⟩
 rw[hR];have hE:=wu.start h (.int .i64 0);obtain ⟨gs,gr,Fs,Fr,h1,h2,h3,h4,h5,h6,hF⟩:=id hE.en;have x0:=h1.cell 0;simp at x0;have hT:=Hr h2 ho hK now eP;rw[hR] at hT;have HN:=ah (jv h1);have HT:=ah hT;have HS:=ah (fun w' (hG:NN (w.alloc (.cells #[.int .i64 0] 53)) Fs gs c R.1 w')=>hE.call (kY.snd h1 h2 h3 h4 h5 h6 hF hG));have HR:=ah hr;clear h hE h1 h2 h3 h4 h5 h6 hF ho hT hR hr
 go_enter_defers Tryz.func22,Tryz.ntmps22
 go_wp2_with (go_at_call 48;refine HN.out.mono ?_;rintro e1 w1 ⟨rfl,rfl⟩);refine HT.out.mono ?_;rintro e2 w2 ⟨rfl,hG⟩;obtain ⟨F2,hE2⟩:=HS.out _ hG;have c0:=hE2.bx.cell 0;have f0:=hE2.bx.frozen 0;simp at c0;have Li:=hE2.put (.int .i64 R.2);have Um:wu w F F2 ge c R.1 r n (.int .i64 R.2) (w2.setCell ⟨w.heap.size,0,none⟩ (.int .i64 R.2)).drew:=Li.more (Below.refl _ _).drew;obtain ⟨gs3,Vu,Fs3,Fr3,k1,k2,k3,k4,k5,k6,kF⟩:=id Um.en;have y1:(w2.setCell ⟨w.heap.size,0,none⟩ (.int .i64 R.2)).drew.cell? ⟨ge,1,none⟩=some (.pointer (some ⟨Vu,0,none⟩)):=by have:=k1.cell 1;simpa using this
 have y1':(w2.setCell ⟨w.heap.size,0,none⟩ (.int .i64 R.2)).cell? ⟨ge,1,none⟩=some (.pointer (some ⟨Vu,0,none⟩)):=y1;have b3:(w2.setCell ⟨w.heap.size,0,none⟩ (.int .i64 R.2)).drew.cell? ⟨w.heap.size,0,none⟩=some (.int .i64 R.2):=by have:=Um.bx.cell 0;simpa using this
 have YY:(w2.setCell ⟨w.heap.size,0,none⟩ (.int .i64 R.2)).cell? ⟨w.heap.size,0,none⟩=some (.int .i64 R.2):=b3;have Y1:=Ht k3 HR.out now eP;have HT3:=ah Y1;have xM:=ah (fun w' (hG:Yi (w2.setCell ⟨w.heap.size,0,none⟩ (.int .i64 R.2)).drew Fr3 Vu n c (dI c r now) w')=>Um.call (kY.rcv k1 k2 k3 k4 k5 k6 kF hG));have HGE:=ah (fun w' (hG:Yi (w2.setCell ⟨w.heap.size,0,none⟩ (.int .i64 R.2)).drew Fr3 Vu n c (dI c r now) w')=>iN hG.2 k1.lt (fun _=>k6));clear hG hE2 Li Um k1 k2 k3 k4 k5 k6 kF Y1 HN HT HS x0;by_cases AL:R.2=0
 ·have HM:=ah (fun (W:World) (b:Nat) (hb:au W b 53 #[.int .i64 0,.int .i64 R.2])=>(Am b R.2 W hb).mono fun e w' (h:(if R.2=0 then e= .returned (.tuple #[]) else e=raise R.2)∧W=w')=>(by rw[if_pos AL] at h;exact h:e= .returned (.tuple #[])∧W=w'));have HER:=ah AL;clear AL;go_upto_region 5 with fail
  refine wp_region_noPanic ?_
  go_region_law (first
   |(go_simp;(with_reducible refine HT3.out.mono ?_);rintro e4 w4 ⟨rfl,hG4⟩;obtain ⟨F4,Ro⟩:=xM.out _ hG4;have b4:w4.cell? ⟨w.heap.size,0,none⟩=some (.int .i64 R.2):=(by have:=Ro.bx.cell 0;simpa using this))
   |(go_simp;(with_reducible refine (HM.out _ _ (au.new w4 _ _)).mono ?_);rintro e5 w5 ⟨rfl,rfl⟩))
  all_goals
   refine NoPanic.normal ?_;have Nh:=Ro.more ((Below.refl _ w4).alloc (aN) (.cells #[.int .i64 0,.int .i64 R.2] 53));have c5:=Nh.bx.cell 0;have f5:=Nh.bx.frozen 0;have hE6:=Nh.put (.int .i64 0);have Y8:=ah hE6;simp at c5;clear Ro Nh hE6 hG4;go_wp2_with fail;exact Ng _ _ _ _ rfl Y8.out.bx ⟨by rw[HER.out],Y8.out.done⟩
 ·have HM:=ah (fun (W:World) (b:Nat) (hb:au W b 53 #[.int .i64 0,.int .i64 R.2])=>(Am b R.2 W hb).mono fun e w' (h:(if R.2=0 then e= .returned (.tuple #[]) else e=raise R.2)∧W=w')=>(by rw[if_neg AL] at h;exact h:e=raise R.2∧W=w'));clear AL;go_upto_region 5 with fail
  refine Code.wp_mono (Q:=rQ 4 (.pointer (some ⟨w.heap.size,0,none⟩)) [{target:= .fn (.func 49) #[],args:= #[.pointer (some ⟨w.heap.size,0,none⟩)]}] (fun e W=>e= .panic [{v:= .iface 53 (.int .i64 R.2),recovered:=false}]∧∃F4,wu w F F4 ge c R.1 (dI c r now) n (.int .i64 R.2) W)) (fun e a W h=> ?_) ?_
  ·cases e with
   |panic cc=>
    obtain ⟨h4,hd,he,F4,hE⟩:=h;cases he;obtain ⟨T,D⟩:=a;dsimp only at h4 hd;subst hd;exact Hz W _ _ R.2 T h4 hE.bx ⟨rfl,(hE.put _).done⟩
   |_=>exact (h:False).elim
  refine aZ (fun w'=>w'.cell? ⟨ge,1,none⟩=some (.pointer (some ⟨Vu,0,none⟩))∧w'.cell? ⟨w.heap.size,0,none⟩=some (.int .i64 R.2)) [] (by kernel_rfl) ?_;have hHeld:=(show (fun w'=>w'.cell? ⟨ge,1,none⟩=some (.pointer (some ⟨Vu,0,none⟩))∧w'.cell? ⟨w.heap.size,0,none⟩=some (.int .i64 R.2)) (w2.setCell ⟨w.heap.size,0,none⟩ (.int .i64 R.2)).drew from ⟨y1,b3⟩);refine aY 0 rfl hHeld ?_ (hQ:=rQ.put (by decide))
  try simp only[Act.put,aB,aC,ax,ay,aA]
  refine aY 1 rfl hHeld ?_ (hQ:=rQ.put (by decide))
  try simp only[Act.put,aB,aC,aD,ax,ay,aA]
  refine aY 2 rfl hHeld ?_ (hQ:=rQ.put (by decide))
  try simp only[Act.put,aB,aC,aD,ax,ay,aA]
  refine gV [] 3 ?_ rfl (Or.inl ⟨by rfl,?_⟩) hHeld ?_ (hQ:=rQ.put (by decide));rotate_left
  ·intro w' hSw;obtain ⟨hS1,hS2⟩:=hSw;go_simp
   try with_reducible rfl
  try simp only[Act.put,aB,aC,aD,ax,ay,aA]
  refine aY 4 rfl hHeld ?_ (hQ:=rQ.put (by decide))
  try simp only[Act.put,aB,aC,aD,ax,ay,aA]
  refine gV [] 6 ?_ rfl (Or.inl ⟨by rfl,?_⟩) hHeld ?_ (hQ:=rQ.put (by decide));rotate_left
  ·intro w' hSw;obtain ⟨hS1,hS2⟩:=hSw;go_simp
   try with_reducible rfl
  try simp only[Act.put,aB,aC,aD,ax,ay,aA]
  refine aR (i:=5) rfl (by kernel_rfl) (by rfl) (fun K hK=> ?_);go_simp;refine HT3.out.mono ?_;rintro e4 w4 ⟨rfl,hG4⟩;obtain ⟨F4,Ro⟩:=xM.out _ hG4;have hs4:(fun w'=>w'.cell? ⟨ge,1,none⟩=some (.pointer (some ⟨Vu,0,none⟩))∧w'.cell? ⟨w.heap.size,0,none⟩=some (.int .i64 R.2)) w4:=⟨(World.cell?_of_block (a:=⟨ge,1,none⟩) (HGE.out _ hG4)).trans y1,by have:=Ro.bx.cell 0;simpa using this⟩;have Nh:=Ro.more ((Below.refl _ w4).alloc (aN) (.cells #[.int .i64 0,.int .i64 R.2] 53));have hs5:(fun w'=>w'.cell? ⟨ge,1,none⟩=some (.pointer (some ⟨Vu,0,none⟩))∧w'.cell? ⟨w.heap.size,0,none⟩=some (.int .i64 R.2)) (w4.alloc (.cells #[.int .i64 0,.int .i64 R.2] 53)):=⟨(World.cell?_alloc_lt w4 _ ⟨ge,1,none⟩ (World.block_lt_of_cell? w4 _ hs4.1)).trans hs4.1,by have:=Nh.bx.cell 0;simpa using this⟩;have HE5:=ah Nh;refine hK _ _ hs4 ?_;clear hK K hHeld Ro Nh hG4
  try simp only[Act.put,aB,aC,aD,ax,ay,aA]
  refine aR (i:=7) rfl (by kernel_rfl) (by rfl) (fun K hK=> ?_);go_simp;refine hK _ _ hs5 ?_;clear hK K
  try simp only[Act.put,aB,aC,aD,ax,ay,aA]
  refine aR (i:=8) rfl (by kernel_rfl) (by rfl) (fun K hK=> ?_);go_simp;refine (HM.out _ _ (au.new w4 _ _)).mono ?_;rintro e5 w5 ⟨rfl,rfl⟩;exact ⟨rfl,rfl,rfl,F4,HE5.out⟩
end
end
section
open Go.RowKit Go.Shelf
attribute [local go_sem] Oper.semAt_some
section
variable {w:World} {gs gr ge n K:Nat} {c:Cf} {s:Sd} {r:Rc} {Fs Fr:Nat→Prop} {F:Fp}
def GrE (w:World) (F:Fp) (ge:Nat) (c:Cf) (n:Nat) (R:Sd × Rc × List UInt8 × Int) (e:Ending) (w':World):Prop:=
 ∃v,e= .returned (.tuple #[v,.int .i64 R.2.2.2])∧w'.ownsRow w.heap.size 5 1 v R.2.2.1.length (bO R.2.2.1)∧Lh w F ge c R.1 R.2.1 n w'
theorem sV {Q:Ending→World→Prop} (W:World) (b:Nat) (v x:Value) (T:Array Value) (h6:T[6]? =some v) (h7:T[7]? =some (.pointer (some ⟨b,0,none⟩))) (he:au W b 53 #[x]) (hQ:Q (.returned (.tuple #[v,x])) W):
 bodyPostD Tryz.prog Tryz.f18 Q .ret {tmps:=T,defers:= [{target:= .fn (.func 49) #[],args:= #[.pointer (some ⟨b,0,none⟩)]}]} W:=by
 refine leaves_cons (f:=49) (args:= #[.pointer (some ⟨b,0,none⟩)]) (by simp) (by simp[go_sem]) ?_;refine (ko _ _).mono ?_;rintro e9 u9 w9 ⟨rfl,rfl,rfl⟩;have c0:=he.cell 0;simp at c0;exact ⟨.tuple #[v,x],by simp[results,Tryz.results18,go_sem,h6,h7,c0],hQ⟩
theorem EM {Q:Ending→World→Prop} (W:World) (b:Nat) (v x:Value) (er:Int) (T:Array Value) (h6:T[6]? =some v) (h7:T[7]? =some (.pointer (some ⟨b,0,none⟩))) (he:au W b 53 #[x]) (hQ:Q (.returned (.tuple #[v,.int .i64 er])) (W.setCell ⟨b,0,none⟩ (.int .i64 er))):
 bodyPostD Tryz.prog Tryz.f18 Q (.panic [{v:= .iface 53 (.int .i64 er),recovered:=false}]) {tmps:=T,defers:= [{target:= .fn (.func 49) #[],args:= #[.pointer (some ⟨b,0,none⟩)]}]} W:=by
 refine leaves_cons (f:=49) (args:= #[.pointer (some ⟨b,0,none⟩)]) (by simp) (by simp[go_sem]) ?_;refine (iZ _ er _ W he).mono ?_;rintro e u' w'' ⟨rfl,rfl,rfl⟩;have c0:=(he.av 0 (.int .i64 er)).cell 0;simp at c0;exact ⟨.tuple #[v,.int .i64 er],by simp[results,Tryz.results18,go_sem,h6,h7,c0],hQ⟩
set_option maxRecDepth 100000 in
set_option maxHeartbeats 2000000 in
theorem J9 (h:kY w F ge c s r n) (ho:dZ c s K) (hK:K≤80000) (hr:uU c r) (now N:Int) (eP:now≤9223372036854775807) (hN:N≤9223372036854775807):
 Calls Tryz.prog 18 #[.pointer (some ⟨ge,0,none⟩),.int .i64 now,.int .i64 N] w (GrE w F ge c n (dK c s r now N)):=by
 have hE:=wu.start h (.int .i64 0);have hF:=qD hE.en ho;obtain ⟨gs,gr,Fs,Fr,h1,h2,h3,h4,h5,h6,Fe⟩:=id hE.en;have HN:=ah (jv h1);have HE:=ah hE;obtain ⟨fl,hfl⟩:∃fl,s.failed=fl:=⟨_,rfl⟩
 rw[hfl] at hF;have HF:=ah hF;cases fl with
 |true=>
  have hfin:dK c s r now N=(s,r,[],8):=by unfold dK;rw[if_pos hfl]
  rw[hfin];clear h ho hr hE hF h1 h2 h3 h4 h5 h6 Fe hfl hfin
  go_enter_defers Tryz.func18,Tryz.ntmps18
  go_wp2_with (go_at_call 48;refine HN.out.mono ?_;rintro e1 w1 ⟨rfl,rfl⟩);refine HF.out.mono ?_;rintro e2 w2 ⟨rfl,hb2⟩;have hE2:=HE.out.more hb2;have c0:=hE2.bx.cell 0;have f0:=hE2.bx.frozen 0;have Li:=hE2.put (.int .i64 8);have c3:=Li.bx.cell 0;simp at c0 c3;go_wp2_with fail;exact ⟨.tuple #[.slice none 0 0,.int .i64 8],by simp[results,Tryz.results18,go_sem,c3],_,rfl,World.ownsRow_nil _ _ _ _,Li.done⟩
 |false=>
  by_cases hn:N<0
  ·have hfin:dK c s r now N=(s,r,[],2):=by unfold dK;rw[if_neg (by simp[hfl]),if_pos hn]
   rw[hfin];clear h ho hr hE hF h1 h2 h3 h4 h5 h6 Fe hfl hfin
   go_enter_defers Tryz.func18,Tryz.ntmps18
   go_wp2_with (go_at_call 48;refine HN.out.mono ?_;rintro e1 w1 ⟨rfl,rfl⟩);refine HF.out.mono ?_;rintro e2 w2 ⟨rfl,hb2⟩;have hE2:=HE.out.more hb2;have c0:=hE2.bx.cell 0;have f0:=hE2.bx.frozen 0;have Li:=hE2.put (.int .i64 2);have c3:=Li.bx.cell 0;simp at c0 c3;go_wp2_with fail;exact ⟨.tuple #[.slice none 0 0,.int .i64 2],by simp[results,Tryz.results18,go_sem,c3],_,rfl,World.ownsRow_nil _ _ _ _,Li.done⟩
  ·have hn':decide (N<0)=false:=decide_eq_false hn;obtain ⟨R,hR⟩:∃R,fF c s now=R:=⟨_,rfl⟩
   obtain ⟨G,hGG⟩:∃G,dK c s r now N=G:=⟨_,rfl⟩
   have hfin:dK c s r now N=if R.2≠0 then (R.1,r,[],R.2)
    else if rG (dI c r now) now=true∧2≤N then (R.1,(fG c (dI c r now) now N).1,(fG c (dI c r now) now N).2.1,((fG c (dI c r now) now N).2.2:Nat))
    else ((dA c R.1 now N).1,dI c r now,TC (dA c R.1 now N).2.1,(dA c R.1 now N).2.2):=by
    unfold dK;rw[if_neg (by simp[hfl]),if_neg hn,hR]
   rw[hGG] at hfin ⊢;have ho2:=ho.tick now eP;rw[hR] at ho2;have je:=ah hfin;have HO:=ah ho;have C8:=ah ho2;have HR:=ah hr;have HRR:=ah hR;clear h ho ho2 hr hE hF h1 h2 h3 h4 h5 h6 Fe hfl hfin hR hGG
   go_enter_defers Tryz.func18,Tryz.ntmps18
   go_wp2_with (go_at_call 48;refine HN.out.mono ?_;rintro e1 w1 ⟨rfl,rfl⟩);refine HF.out.mono ?_;rintro e2 w2 ⟨rfl,hb2⟩;have hE2:=HE.out.more hb2;obtain ⟨gs2,gr2,Fs2,Fr2,h1,h2,h3,h4,h5,h6,Fe⟩:=id hE2.en;have x0:=h1.cell 0;simp at x0;have hT:=Hr h2 HO.out (by omega) now eP;rw[HRR.out] at hT;have HT:=ah hT;have HS:=ah (fun w' (hG:NN w2 Fs2 gs2 c R.1 w')=>hE2.call (kY.snd h1 h2 h3 h4 h5 h6 Fe hG));clear hE2 h1 h2 h3 h4 h5 h6 Fe hT hb2 HN HE HF HO;go_wp2_with fail;refine HT.out.mono ?_;rintro e3 w3 ⟨rfl,hG⟩;obtain ⟨F3,Li⟩:=HS.out _ hG;have Vv:=ah (Li.more ((Below.refl _ w3).alloc (aN) (.cells #[.int .i64 R.2] 53)));clear Li hG HS HT x0 HRR;obtain ⟨R1,R2⟩:=R;dsimp only at Vv je C8 ⊢;by_cases AL:R2=0
   ·subst AL;have HM:=ah (nQ w3.heap.size _ (au.new w3 53 #[.int .i64 0]));obtain ⟨gs4,gr4,Fs4,Fr4,h1,h2,h3,h4,h5,h6,Fe⟩:=id Vv.out.en;have x1:=h1.cell 1;simp at x1;have HT:=ah (Ht h3 HR.out now eP);have HS:=ah (fun w' (hG:Yi (w3.alloc (.cells #[.int .i64 0] 53)) Fr4 gr4 n c (dI c r now) w')=>Vv.out.call (kY.rcv h1 h2 h3 h4 h5 h6 Fe hG));clear h1 h2 h3 h4 h5 h6 Fe Vv;go_wp2_with (go_at_call 50;refine HM.out.mono ?_;rintro e4 w4 ⟨rfl,rfl⟩);refine HT.out.mono ?_;rintro e5 w5 ⟨rfl,tH⟩;obtain ⟨F5,Nh⟩:=HS.out _ tH;have Y8:=ah (Nh.more ((Below.refl _ w5).alloc (aN) (.cells #[.int .i64 0] 53)));have Xm:=ah (nQ w5.heap.size _ (au.new w5 53 #[.int .i64 0]));obtain ⟨gs6,gr6,Fs6,Fr6,h1,h2,h3,h4,h5,h6,Fe⟩:=id Y8.out.en;have y0:=h1.cell 0;have y1:=h1.cell 1;simp at y0 y1;have HP:=ah (wW h3 now);clear Nh tH HS HT HM x1 h1 h2 h3 h4 h5 h6 Fe;go_wp2_with (go_at_call 50;refine Xm.out.mono ?_;rintro e6 w6 ⟨rfl,rfl⟩);refine HP.out.mono ?_;rintro e7 w7 ⟨rfl,pz⟩;have Vw:=Y8.out.more pz;have V8:=ah Vw.kp.size;obtain ⟨gs7,gr7,Fs7,Fr7,h1,h2,h3,h4,h5,h6,Fe⟩:=id Vw.en;have z0:=h1.cell 0;have z1:=h1.cell 1;simp at z0 z1;clear pz Y8 Xm HP y0 y1;obtain ⟨pd,NJ⟩:∃pd,rG (dI c r now) now=pd:=⟨_,rfl⟩
    have hG0:=je.out;rw[if_neg (by simp),NJ] at hG0;rw[NJ];clear NJ;cases pd with
    |false=>
     have hg:=hG0;rw[if_neg (by simp)] at hg;clear hG0;have WQ:=ah (Dl h2 C8.out (by omega) now N eP hN);have Vx:=ah (fun w' (hG:NN w7 Fs7 gs7 c (dA c R1 now N).1 w')=>Vw.call (kY.snd h1 h2 h3 h4 h5 h6 Fe hG));have HG:=ah hg;clear hg Vw h1 h2 h3 h4 h5 h6 Fe;go_wp2_with fail;refine WQ.out.mono ?_;rintro e8 w8 ⟨v8,rfl,NE,NK⟩;obtain ⟨F8,H7⟩:=Vx.out _ NK;have c8:=H7.bx.cell 0;have f8:=H7.bx.frozen 0;simp at c8;have Vy:=ah (H7.put (.int .i64 (dA c R1 now N).2.2));have Rn:=ah (aU (aI (i:=0) NE H7.bx (by decide) (.int .i64 (dA c R1 now N).2.2)) V8.out);clear H7 NK NE Vx;go_wp2_with fail;refine sV _ _ _ _ _ rfl rfl Vy.out.bx ?_;rw[HG.out];exact ⟨_,rfl,Rn.out,Vy.out.done⟩
    |true=>
     by_cases h2N:2≤N
     ·have hg:=hG0;rw[if_pos ⟨rfl,h2N⟩] at hg;have d2:decide (2≤N)=true:=decide_eq_true h2N;clear hG0;have WQ:=ah (Nf h3 (HR.out.goes eP) now eP N hN);have Vx:=ah (fun w' (hG:Yi w7 Fr7 gr7 n c (fG c (dI c r now) now N).1 w')=>Vw.call (kY.rcv h1 h2 h3 h4 h5 h6 Fe hG));have HG:=ah hg;clear hg Vw h1 h2 h3 h4 h5 h6 Fe;go_wp2_with fail;refine WQ.out.mono ?_;rintro e8 w8 ⟨v8,rfl,NE,NK⟩;obtain ⟨F8,H7⟩:=Vx.out _ NK;have c8:=H7.bx.cell 0;have f8:=H7.bx.frozen 0;simp at c8;have Vy:=ah (H7.put (.int .i64 ((fG c (dI c r now) now N).2.2:Nat)));have Rn:=ah (aU (aI (i:=0) NE H7.bx (by decide) (.int .i64 ((fG c (dI c r now) now N).2.2:Nat))) V8.out);clear H7 NK NE Vx;go_wp2_with fail;refine sV _ _ _ _ _ rfl rfl Vy.out.bx ?_;rw[HG.out];exact ⟨_,rfl,Rn.out,Vy.out.done⟩
     ·have hg:=hG0;rw[if_neg (fun hh=>h2N hh.2)] at hg;have d2:decide (2≤N)=false:=decide_eq_false h2N;clear hG0;have WQ:=ah (Dl h2 C8.out (by omega) now N eP hN);have Vx:=ah (fun w' (hG:NN w7 Fs7 gs7 c (dA c R1 now N).1 w')=>Vw.call (kY.snd h1 h2 h3 h4 h5 h6 Fe hG));have HG:=ah hg;clear hg Vw h1 h2 h3 h4 h5 h6 Fe;go_wp2_with fail;refine WQ.out.mono ?_;rintro e8 w8 ⟨v8,rfl,NE,NK⟩;obtain ⟨F8,H7⟩:=Vx.out _ NK;have c8:=H7.bx.cell 0;have f8:=H7.bx.frozen 0;simp at c8;have Vy:=ah (H7.put (.int .i64 (dA c R1 now N).2.2));have Rn:=ah (aU (aI (i:=0) NE H7.bx (by decide) (.int .i64 (dA c R1 now N).2.2)) V8.out);clear H7 NK NE Vx;go_wp2_with fail;refine sV _ _ _ _ _ rfl rfl Vy.out.bx ?_;rw[HG.out];exact ⟨_,rfl,Rn.out,Vy.out.done⟩
   ·have HM:=ah (oJ w3.heap.size R2 (by simpa using AL) _ (au.new w3 53 #[.int .i64 R2]));have hg:G=(R1,r,[],R2):=by rw[je.out,if_pos AL]
    have HG:=ah hg;clear AL hg;go_wp2_with (go_at_call 50;refine HM.out.mono ?_;rintro e4 w4 ⟨rfl,rfl⟩);refine EM _ _ _ _ _ _ rfl rfl Vv.out.bx ?_;rw[HG.out];exact ⟨_,rfl,World.ownsRow_nil _ _ _ _,(Vv.out.put _).done⟩
end
end
end Go.Proofs.YtbhiklnljiehiaaGreat
