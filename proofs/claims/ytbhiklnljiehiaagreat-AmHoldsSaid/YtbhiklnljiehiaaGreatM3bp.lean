/- Grant of a transmitter in one form. -/
import Derived.Test.YtbhiklnljiehiaaGreatM3bi
import Derived.Test.YtbhiklnljiehiaaGreatM3bn
import Derived.Test.YtbhiklnljiehiaaGreatM3bo
set_option maxHeartbeats 2000000
set_option maxRecDepth 100000
namespace Go.Proofs.YtbhiklnljiehiaaGreat
open RowKit Shelf Tryz
attribute [local go_sem] Oper.semAt_some
section
variable {w:World} {F:Nat->Prop} {g:Nat} {c:Cf} {st:Sd} {K:Nat}
end
section
variable {w w' W W':World} {D F D' F' N N':Nat->Prop} {g K K':Nat} {c:Cf} {st st':Sd} {vq vo:Value} {vs os:List Value}
def minD (g:Nat) (vq vo:Value) (os:List Value) (k:Nat):Prop:=k=g\/bM vq=some k\/bM vo=some k\/∃i:Nat,os[i]? =some (Value.pointer (some k))
theorem gu.min_le (h:gu w D F g c st vq vs vo os) {k:Nat} (hk:minD g vq vo os k):D k:=by
 rcases hk with rfl|hk|hk|⟨i,hi⟩
 ·exact h.gd
 ·exact h.qd k hk
 ·exact h.od k hk
 ·have hl:i<st.out.length:=by
   have h1:=(pN.1 hi).1;have h2:=h.yL.1;omega
  obtain ⟨p,Ap,cp,vp,Ar,cr,e,ho⟩:=h.oe i _ (gX hl);rw[hi] at e;cases e;exact ho.d
theorem gu.min (h:gu w D F g c st vq vs vo os):gu w (minD g vq vo os) F g c st vq vs vo os:=
 {blk:=h.blk,gd:= .inl rfl,sub:=fun k hk=>h.sub k (h.min_le hk),lt:=h.lt,qr:=h.qr,qd:=fun k hk=> .inr (.inl hk)
  qe:=fun i p hi=>by
   obtain ⟨A,cc,e,hs,hf⟩:=h.qe i p hi;exact ⟨A,cc,e,hs,fun ad ha=>⟨(hf ad ha).1,fun hm=>(hf ad ha).2 (h.min_le hm)⟩⟩
  yL:=h.yL,od:=fun k hk=> .inr (.inr (.inl hk))
  oe:=fun i x hi=>by
   obtain ⟨p,Ap,cp,vp,Ar,cr,e,ho⟩:=h.oe i x hi;refine ⟨p,Ap,cp,vp,Ar,cr,e,⟨ho.blk,.inr (.inr (.inr ⟨i,e⟩)),ho.f,ho.ps,fun ad ha=>⟨(ho.pf ad ha).1,fun hm=>(ho.pf ad ha).2 (h.min_le hm)⟩,fun j v hj ad ha=>⟨(ho.pe j v hj ad ha).1,fun hm=>(ho.pe j v hj ad ha).2 (h.min_le hm)⟩,ho.rs,fun ad ha=>⟨(ho.rf ad ha).1,fun hm=>(ho.rf ad ha).2 (h.min_le hm)⟩⟩⟩
  inj:=h.inj}
theorem gu.min_u8 (h:gu w D F g c st vq vs vo os) {k:Nat} (hk:minD g vq vo os k) (cs:Array Value) (fr:Nat × Nat):w.heap[k]? ≠some (.cells cs 5 fr):=by
 intro hc;rcases hk with rfl|hk|hk|⟨i,hi⟩
 ·have h1:w.heap[k]? =some (.cells _ 143 (0,0)):=h.blk;rw[hc] at h1;injection h1 with h1
  injection h1 with _ h2 _
  exact absurd h2 (by decide)
 ·obtain ⟨cur,h1,_⟩:=h.qr.row hk;rw[hc] at h1;injection h1 with h1
  injection h1 with _ h2 _
  exact absurd h2 (by decide)
 ·obtain ⟨cur,h1,_⟩:=h.yL.row hk;rw[hc] at h1;injection h1 with h1
  injection h1 with _ h2 _
  exact absurd h2 (by decide)
 ·have hl:i<st.out.length:=by
   have h1:=(pN.1 hi).1;have h2:=h.yL.1;omega
  obtain ⟨p,Ap,cp,vp,Ar,cr,e,ho⟩:=h.oe i _ (gX hl);rw[hi] at e;cases e;have h1:w.heap[k]? =some (.cells _ 152 (0,0)):=ho.blk;rw[hc] at h1;injection h1 with h1
  injection h1 with _ h2 _
  exact absurd h2 (by decide)
end
section
variable {w w' w'':World} {T:Nat->Nat} {g M n n' gs gr ge K B:Nat} {c:Cf} {s s':Sd} {st st' r r':Rc} {vo v:Value} {F Fs Fr F':Nat->Prop}
def Bl (w:World) (F:Nat->Prop) (g n:Nat) (c:Cf) (st:Rc):Prop:=∃T M vo,jo w T g M n c st vo/\∀k,F k↔T k≠0
theorem Bl.lt (h:Bl w F g n c st):∀k,F k->k<w.heap.size:=fun k hk=>by
 obtain ⟨T,M,vo,h,hF⟩:=h;exact h.lt k ((hF k).1 hk)
theorem Bl.stay (h:Bl w F g n c st) (hk:∀k,F k->w'.heap[k]? =w.heap[k]?):Bl w' F g n c st:=by
 obtain ⟨T,M,vo,h,hF⟩:=h;exact ⟨T,M,vo,h.stay fun k hk'=>hk k ((hF k).2 hk'),hF⟩
theorem kg {M:Nat->Obj->Prop} (hk:Kept M w w') {k:Nat} (hl:k<w) (hm:∀o,¬M k o):w'.heap[k]? =w.heap[k]? :=by
 have e:=rH hl;rw[e];exact hk.same _ _ e (hm _)
theorem Bl.below (h:Bl w F g n c st) (hb:Below w w w'):Bl w' F g n c st:=h.stay fun k hk=>hb.block k (h.lt k hk)
theorem Bl.of (h:jo w' T g M n c st vo):Bl w' (fun k=>T k≠0) g n c st:=⟨T,M,vo,h,fun _=>Iff.rfl⟩
structure wW (c:Cf) (st:Rc):Prop where
 cf:CfR c
 ok:fM st
 sz:zx st
theorem wW.recv (h:wW c st) {now:Int} (hn:now<=9223372036854775807) (bs:List UInt8):wW c (fZ c st now bs).1:=⟨h.cf,h.ok.recv c hn bs,h.sz.recv c now bs⟩
theorem wW.ko (h:wW c st) {now:Int} (hn:now<=9223372036854775807) (N:Int):wW c (dG c st now N).1:=⟨h.cf,h.ok.ko c hn N,h.sz.ko c now N⟩
theorem wW.goes (h:wW c st) {now:Int} (hn:now<=9223372036854775807):wW c (aM c st now):=⟨h.cf,h.ok.goes c hn,h.sz.Wl (Bd c st now)⟩
theorem Di (h:Bl w F g n c st) (now:Int):
 Calls prog 53 #[.pointer (some g),now] w fun e w'=>e= .returned (.bool (uV st now))/\Below w w w':=
 let ⟨_,_,_,h,_⟩:=h
 Ls h now
end
structure Fp where
 a:Nat->Prop
 b:Nat->Prop
instance:CoeFun Fp (fun _=>Nat->Prop):=⟨Fp.a⟩
def U8 (o:Obj):Prop:=∃cs fr,o= .cells cs 5 fr
section
variable {w w' w'':World} {g n n' gs gr ge K B:Nat} {c:Cf} {s s':Sd} {r r':Rc} {v:Value} {Fs Fr:Nat->Prop} {F F':Fp}
def Wn (w:World) (Fs:Nat->Prop) (g:Nat) (c:Cf) (st:Sd) (w':World):Prop:=∃F',Gc w' F' g c st/\dU w Fs F'/\Kept (fun k o=>Fs k/\¬U8 o) w w'
theorem pK.gw {vq vo:Value} {vs os:List Value} {st:Sd} (h:gu w (minD g vq vo os) Fs g c s vq vs vo os) (ho:pK w (minD g vq vo os) Fs g c st w'):Wn w Fs g c st w':=by
 obtain ⟨D',F',PT,vs',GR,os',h1,_,h3,h4⟩:=ho;exact ⟨F',⟨D',PT,vs',GR,os',h1⟩,h3,h4.iI fun k o ho hk=>⟨h.sub k hk,fun ⟨cs,fr,e⟩=>h.min_u8 hk cs fr (by rw[ho,e])⟩⟩
theorem Ql (h:Gc w Fs g c s) (ho:fu c s K) {A:Option Addr} {n cc:Nat} {x:List UInt8} (hx:Sl w w A n cc (dz x)):
 Calls prog 58 #[.pointer (some g),.slice A n cc] w fun e w'=>e= .returned (.int .i64 (bV c s x).2)/\Wn w Fs g c (bV c s x).1 w':=by
 obtain ⟨D,vq,vs,vo,os,h⟩:=h;have hh:=ho.bnd.held;have hq:=xk ho.inv.pos;have e:aH s=aj s.queue:=rfl;exact (Ni h.min ho.cf hh (by omega) hx).mono fun e w' hh=>⟨hh.1,hh.2.gw h.min⟩
theorem Wo (h:Gc w Fs g c s) (ho:fu c s K) (hK:K<=90000) (now:Int) (hn:now<=9223372036854775807):
 Calls prog 51 #[.pointer (some g),now] w fun e w'=>e= .returned (.int .i64 (eY c s now).2)/\Wn w Fs g c (eY c s now).1 w':=by
 obtain ⟨D,vq,vs,vo,os,h⟩:=h;exact (SB h.min ho.cf.timer.1 ho.bnd hK ho.inv.w now hn).mono fun e w' hh=>⟨hh.1,hh.2.gw h.min⟩
theorem Qm (h:Gc w Fs g c s) (ho:fu c s K) (hK:K<=90000) (now aA:Int) (hn:now<=9223372036854775807) (A:Option Addr) (n cc:Nat) (fI:List Nk) (hN:dD w A n cc fI) (hAF:∀ad,A=some ad->0<n->¬Fs ad.block):
 Calls prog 93 #[.pointer (some g),now,.agg #[aA,.slice A n cc]] w fun e w'=>e= .returned (.int .i64 (bP c s now aA fI).2)/\Wn w Fs g c (bP c s now aA fI).1 w':=by
 obtain ⟨D,vq,vs,vo,os,h⟩:=h;by_cases hf:s.failed=true
 ·exact (yt h.min ho.cf.timer.1 now aA A n cc fI hN (.inl hf)).mono fun e w' hh=>⟨hh.1,hh.2.gw h.min⟩
 ·cases hv:bO aA fI with
  |false=>exact (yt h.min ho.cf.timer.1 now aA A n cc fI hN (.inr hv)).mono fun e w' hh=>⟨hh.1,hh.2.gw h.min⟩
  |true=>exact (Nr h.min ho.cf ho.bnd hK ho.inv (by simpa using hf) now aA hn A n cc fI hN (fun ad e hz hd=>hAF ad e hz (h.min.sub _ hd)) hv).mono fun e w' hh=>⟨hh.1,hh.2.gw h.min⟩
theorem JQ (h:Gc w Fs g c s) (ho:fu c s K) (hK:K<=90000) (now n:Int) (ed:now<=9223372036854775807) (hn:n<=9223372036854775807):
 Calls prog 55 #[.pointer (some g),now,n] w fun e w'=>∃v,e= .returned (.tuple #[v,.int .i64 (aZ c s now n).2.2])/\w'.ownsRow w 5 1 v (D7 (aZ c s now n).2.1).length (dz (D7 (aZ c s now n).2.1))/\Wn w Fs g c (aZ c s now n).1 w':=by
 obtain ⟨D,vq,vs,vo,os,h⟩:=h;have key:Calls prog 55 #[.pointer (some g),now,n] w (NI w (minD g vq vo os) Fs g c (aZ c s now n)):=by
  by_cases hx:s.failed=true\/n<0
  ·exact Li h.min ho.cf.timer.1 now n hx
  ·have hx':=not_or.1 hx;exact Qe h.min ho.cf ho.bnd hK ho.inv (by simpa using hx'.1) now n ed (by omega) hn
 exact key.mono fun e w' hh=>by
  obtain ⟨v,h1,h2,h3⟩:=hh;exact ⟨v,h1,h2,h3.gw h.min⟩
def RcK (w:World) (F:Nat->Prop) (g n:Nat) (c:Cf) (st:Rc) (w':World):Prop:=Bl w' F g n c st/\Kept (fun k _=>F k) w w'
theorem Ti (h:Bl w Fr g n c r) (ho:wW c r) (now:Int) (ed:now<=9223372036854775807) (N:Int) (hN:N<=9223372036854775807):
 Calls prog 54 #[.pointer (some g),now,N] w fun e w'=>∃v,e= .returned (.tuple #[v,.int .i64 ((dG c r now N).2.2:Nat)])/\w'.ownsRow w 5 1 v (dG c r now N).2.1.length (dz (dG c r now N).2.1)/\RcK w Fr g n c (dG c r now N).1 w':=by
 obtain ⟨T,M,vo,h,hF⟩:=h;refine (PN h ho.ok ho.sz ho.cf now ed N hN).mono ?_;rintro e w' ⟨v,rfl,hv,hR,hK⟩;exact ⟨v,rfl,hv,⟨T,M,vo,hR,hF⟩,hK.mono fun k o hm=>(hF k).2 hm⟩
theorem Wp (h:Bl w Fr g n c r) (ho:wW c r) (now:Int) (ed:now<=9223372036854775807):
 Calls prog 52 #[.pointer (some g),now] w fun e w'=>e= .returned (.int .i64 0)/\RcK w Fr g n c (aM c r now) w':=by
 obtain ⟨T,M,vo,h,hF⟩:=h;refine (Tg h ho.ok ho.cf now ed).mono ?_;rintro e w' ⟨rfl,hR,hK⟩;exact ⟨rfl,⟨T,M,vo,hR,hF⟩,hK.mono fun k o hm=>(hF k).2 hm⟩
def ZB (F:Fp) (ge:Nat) (Fs Fr:Nat->Prop):Prop:=(∀k,F k↔k=ge\/Fs k\/Fr k)/\∀k,F.b k↔Fr k
def qI (w:World) (F:Fp) (ge:Nat) (c:Cf) (s:Sd) (r:Rc) (n:Nat):Prop:=
 ∃gs gr Fs Fr,av w ge 52 #[.pointer (some ⟨gs,0,none⟩),.pointer (some ⟨gr,0,none⟩)]/\Gc w Fs gs c s/\Bl w Fr gr n c r/\(∀k,Fs k->¬Fr k)/\¬Fs ge/\¬Fr ge/\ZB F ge Fs Fr
def TQ (w:World) (F:Fp) (ge:Nat) (c:Cf) (s:Sd) (r:Rc) (n:Nat) (w':World):Prop:=∃F':Fp,qI w' F' ge c s r n/\dU w F F'/\(∀k,F'.b k->F.b k)/\Kept (fun k o=>F k/\(U8 o->F.b k)) w w'
theorem qI.lt (h:qI w F ge c s r n):∀k,F k->k<w.heap.size:=fun k hk=>by
 obtain ⟨gs,gr,Fs,Fr,h1,h2,h3,_,_,_,hF⟩:=h;rcases (hF.1 k).1 hk with rfl|e|e
 ·exact h1.lt
 ·exact h2.lt k e
 ·exact h3.lt k e
theorem qI.Wq (h:qI w F ge c s r n):∀k,F.b k->F k:=fun k hk=>by
 obtain ⟨gs,gr,Fs,Fr,_,_,_,_,_,_,hF⟩:=h;exact (hF.1 k).2 (.inr (.inr ((hF.2 k).1 hk)))
theorem qI.stay (h:qI w F ge c s r n) (hk:∀k,F k->w'.heap[k]? =w.heap[k]?):qI w' F ge c s r n:=by
 obtain ⟨gs,gr,Fs,Fr,h1,h2,h3,h4,h5,h6,hF⟩:=h;exact ⟨gs,gr,Fs,Fr,(hk ge ((hF.1 ge).2 (.inl rfl))).trans h1,h2.stay fun k e=>hk k ((hF.1 k).2 (.inr (.inl e))),h3.stay fun k e=>hk k ((hF.1 k).2 (.inr (.inr e))),h4,h5,h6,hF⟩
theorem qI.below (h:qI w F ge c s r n) (hb:Below w w w'):qI w' F ge c s r n:=h.stay fun k hk=>hb.block k (h.lt k hk)
theorem qI.snd (h1:av w ge 52 #[.pointer (some gs),.pointer (some gr)]) (_h2:Gc w Fs gs c s) (h3:Bl w Fr gr n c r) (h4:∀k,Fs k->¬Fr k) (h5:¬Fs ge) (h6:¬Fr ge) (hF:ZB F ge Fs Fr) (hG:Wn w Fs gs c s' w'):TQ w F ge c s' r n w':=by
 obtain ⟨Fs',a1,a2,a3⟩:=hG;refine ⟨⟨fun k=>k=ge\/Fs' k\/Fr k,Fr⟩,⟨gs,gr,Fs',Fr,(kg a3 h1.lt fun _ e=>h5 e.1).trans h1,a1,h3.stay fun k hk=>kg a3 (h3.lt k hk) fun _ e=>h4 k e.1 hk,fun k hk hk2=> ?_,fun e=> ?_,h6,fun _=>Iff.rfl,fun _=>Iff.rfl⟩,fun k hk=> ?_,fun k hk=>(hF.2 k).2 hk,a3.mono fun k _ e=>⟨(hF.1 k).2 (.inr (.inl e.1)),fun u=>absurd u e.2⟩⟩
 ·rcases a2 k hk with e|e
  ·exact h4 k e hk2
  ·have:=h3.lt k hk2;omega
 ·rcases a2 ge e with e|e
  ·exact h5 e
  ·have:=h1.lt;omega
 ·rcases hk with e|e|e
  ·exact .inl ((hF.1 k).2 (.inl e))
  ·rcases a2 k e with e|e
   ·exact .inl ((hF.1 k).2 (.inr (.inl e)))
   ·exact .inr e
  ·exact .inl ((hF.1 k).2 (.inr (.inr e)))
theorem qI.rcv (h1:av w ge 52 #[.pointer (some gs),.pointer (some gr)]) (h2:Gc w Fs gs c s) (_h3:Bl w Fr gr n c r) (h4:∀k,Fs k->¬Fr k) (h5:¬Fs ge) (h6:¬Fr ge) (hF:ZB F ge Fs Fr) (hG:RcK w Fr gr n' c r' w'):TQ w F ge c s r' n' w':=by
 obtain ⟨a1,a3⟩:=hG;exact ⟨F,⟨gs,gr,Fs,Fr,(kg a3 h1.lt fun _=>h6).trans h1,h2.stay fun k hk=>kg a3 (h2.lt k hk) fun _ e=>h4 k hk e,a1,h4,h5,h6,hF⟩,dU.refl _ _,fun _ e=>e,a3.mono fun k _ e=>⟨(hF.1 k).2 (.inr (.inr e)),fun _=>(hF.2 k).2 e⟩⟩
end
theorem r9 (be:Nat) (w:World):
 CallsD prog 49 #[.pointer (some be)] .returning w fun e u' w'=>e= .returned (.tuple #[])/\u'= .returning/\w=w':=by
 have hnn:=run_eql_nil_nil (P:=prog) w (t:=20) (by kernel_rfl);refine xP func49 rfl fun c₀ cs hu=> ?_
 apply wpS_seq;apply xU;generalize hQ:Exit.thenS _ _=Q;simp[wpOpsS,go_sem,recoverD,hu,ntmps49];subst hQ;simp only[Exit.thenS];refine xV ?_;rw[show (#[.pointer (some be)]++((Array.replicate 18 undef).setIfInBounds 4 (.nilIface)).setIfInBounds 1 (.nilIface):Array Value)= #[.pointer (some be),undef,.nilIface,undef,undef,.nilIface,undef,undef,undef,undef,undef,undef,undef,undef,undef,undef,undef,undef,undef] from by kernel_rfl];change Code.wp _ _ (kT prog Tryz.f49 c₀ cs (c₀::cs) _) _ w;go_wp2;cases c₀
 simp_all [kT,bodyPostS,results,results49]
theorem oQ (be:Nat) (er:Int) (v4:Value) (w:World) (he:av w be 53 #[v4]):
 CallsD prog 49 #[.pointer (some be)] (.panicking [{v:= .iface 53 er,recovered:=false}]) w fun e u' w'=>e= .returned (.tuple #[])/\u'= .panicking [{v:= .iface 53 er,recovered:=true}]/\
  w.setCell be er=w':=by
 have hnn:=run_eql_held_nil (P:=prog) w 20 53 er (by kernel_rfl);have hta:=pE er w;refine xP func49 rfl fun c₀ cs hu=> ?_
 apply wpS_seq;apply xU;generalize hQ:Exit.thenS _ _=Q;simp[wpOpsS,go_sem,recoverD,hu,ntmps49];subst hQ;simp only[Exit.thenS];refine xV ?_;rw[show (#[.pointer (some be)]++((Array.replicate 18 undef).setIfInBounds 4 (.iface 53 er)).setIfInBounds 1 (.iface 53 er):Array Value)= #[.pointer (some be),undef,.iface 53 er,undef,undef,.iface 53 er,undef,undef,undef,undef,undef,undef,undef,undef,undef,undef,undef,undef,undef] from by kernel_rfl];change Code.wp _ _ (kT prog Tryz.f49 c₀ cs _ _) _ w;have c4:=he.cell 0;have f4:=he.frozen 0;simp at c4;go_wp2;exact ⟨rfl,_,rfl,.tuple #[],by simp[results,results49],rfl,rfl,rfl⟩
theorem tO (r:Nat) (w:World) (h:av w r 53 #[.int .i64 0]):Calls prog 50 #[.slice (some ⟨r,0,none⟩) 1 1] w fun e w'=>e= .returned (.tuple #[])/\w=w':=by
 have c0:=h.cell 0;simp at c0;clear h;go_enter func50,ntmps50;go_wp2
 go_loop [6] (fun i=>∃k:Nat,k<=1/\i= .int .i64 k) (fun i=>1-(intOf i).toNat)
 case atStart=>exact ⟨0,by decide,rfl⟩
 case round=>
  obtain ⟨k,hk,rfl⟩:=hrel;obtain rfl|rfl:k=0\/k=1:=by omega
  ·go_wp2
   go_round
   case rel=>exact ⟨1,by decide,by go_num⟩
   case measure=>simp[intOf]
  ·go_wp2
   go_end0
   exact ⟨rfl,rfl⟩
theorem uL (r:Nat) (er:Int) (TA:(er !=0)=true) (w:World) (h:av w r 53 #[er]):Calls prog 50 #[.slice (some ⟨r,0,none⟩) 1 1] w fun e w'=>e=raise er/\w=w':=by
 have c0:=h.cell 0;simp at c0;clear h;unfold raise;go_enter func50,ntmps50;go_wp2
 go_loop [6] (fun i=>i= .int .i64 0) (fun i=>1-(intOf i).toNat)
 case atStart=>rfl
 case round=>
  subst hrel;go_wp2;exact ⟨rfl,rfl,rfl⟩
def aaQ (w:World) (a0 a1 a2 a3 a4 a5 a6:Int) (e:Ending) (w':World):Prop:=
 Below w w w'/\
  ((eU a0 a1 a2 a3 a4 a5 a6=true/\∃s F,e= .returned (.tuple #[.pointer (some ⟨s,0,none⟩),.int .i64 0])/\(∀k,F k->w.heap.size<=k)/\Bl w' F s 0 (uK a0 a1 a2 a3 a4 a5 a6) gL)\/(eU a0 a1 a2 a3 a4 a5 a6=false/\e= .returned (.tuple #[.pointer none,.int .i64 2])))
theorem ZC (a0 a1 a2 a3 a4 a5 a6:Int) (w:World):Calls prog 73 #[.agg (Be a0 a1 a2 a3 a4 a5 a6)] w (aaQ w a0 a1 a2 a3 a4 a5 a6):=by
 refine (Wj a0 a1 a2 a3 a4 a5 a6 w).mono ?_;rintro e w' ⟨hb,⟨h1,g,M,T,he,hR,hT⟩|h⟩
 ·exact ⟨hb,.inl ⟨h1,g,_,he,hT,Bl.of hR⟩⟩
 ·exact ⟨hb,.inr h⟩
theorem wX {w:World} {c:Nat} {a0 a1 a2 a3 a4 a5 a6:Int} (hc:av w c 23 (Be a0 a1 a2 a3 a4 a5 a6)):w.cell? c=some (.int .i64 a0)/\w.cell? ⟨c,1,none⟩=some (.int .i64 a1)/\w.cell? ⟨c,2,none⟩=some (.int .i64 a2)/\w.cell? ⟨c,3,none⟩=some (.int .i64 a3)/\w.cell? ⟨c,4,none⟩=some (.int .i64 a4)/\w.cell? ⟨c,5,none⟩=some (.int .i64 a5)/\w.cell? ⟨c,6,none⟩=some (.int .i64 a6):=
 ⟨hc.cell 0,hc.cell 1,hc.cell 2,hc.cell 3,hc.cell 4,hc.cell 5,hc.cell 6⟩
theorem adI (a0 a1 a2 a3 a4 a5 a6:Int) (c:Nat) (w:World) (hc:av w c 23 (Be a0 a1 a2 a3 a4 a5 a6)):Calls prog 69 #[.pointer (some c)] w (ahl w a0 a1 a2 a3 a4 a5 a6):=by
 have hcall:=Za a0 a1 a2 a3 a4 a5 a6 w;obtain ⟨x0,x1,x2,x3,x4,x5,x6⟩:=wX hc;unfold Be at hcall;have DL:=ah hcall;clear hc hcall;go_enter func69,ntmps69;go_wp2_with fail;refine DL.out.mono ?_;rintro e1 w1 ⟨hk,⟨hr,s,rfl,hs,hb,ho⟩|⟨hr,rfl⟩⟩
 ·go_wp2
  go_ret2
  exact ⟨hk,.inl ⟨hr,_,rfl,hs,hb,ho⟩⟩
 ·go_wp2
  go_ret2
  exact ⟨hk,.inr ⟨hr,rfl⟩⟩
theorem adJ (a0 a1 a2 a3 a4 a5 a6:Int) (c:Nat) (w:World) (hc:av w c 23 (Be a0 a1 a2 a3 a4 a5 a6)):Calls prog 72 #[.pointer (some c)] w (aaQ w a0 a1 a2 a3 a4 a5 a6):=by
 have hcall:=ZC a0 a1 a2 a3 a4 a5 a6 w;obtain ⟨x0,x1,x2,x3,x4,x5,x6⟩:=wX hc;unfold Be at hcall;have DL:=ah hcall;clear hc hcall;go_enter func72,ntmps72;go_wp2_with fail;refine DL.out.mono ?_;rintro e1 w1 ⟨hk,⟨hr,s,F,rfl,hs,hb⟩|⟨hr,rfl⟩⟩
 ·go_wp2
  go_ret2
  exact ⟨hk,.inl ⟨hr,_,F,rfl,hs,hb⟩⟩
 ·go_wp2
  go_ret2
  exact ⟨hk,.inr ⟨hr,rfl⟩⟩
def amR (w:World) (a0 a1 a2 a3 a4 a5 a6:Int) (e:Ending) (w':World):Prop:=
 Below w w w'/\((eU a0 a1 a2 a3 a4 a5 a6=true/\∃s,e= .returned (.pointer (some ⟨s,0,none⟩))/\w.heap.size<=s/\Gc w' (·=s) s (uK a0 a1 a2 a3 a4 a5 a6) dO)\/(eU a0 a1 a2 a3 a4 a5 a6=false/\e=raise 2))
theorem adK (a0 a1 a2 a3 a4 a5 a6:Int) (c:Nat) (w:World) (hc:av w c 23 (Be a0 a1 a2 a3 a4 a5 a6)):Calls prog 68 #[.func (.func 69) #[] #[.pointer (some c)]] w (amR w a0 a1 a2 a3 a4 a5 a6):=by
 have hcall:=adI a0 a1 a2 a3 a4 a5 a6 c w hc;have DL:=ah hcall;clear hc hcall;go_enter func68,ntmps68;go_wp2_with fail;refine DL.out.mono ?_;rintro e1 w1 ⟨hk,⟨hr,s,rfl,hs,hb,_⟩|⟨hr,rfl⟩⟩
 ·have HK:=ah hk;have HBF:=ah hb;have hm:=tO w1 _ (av.new w1 53 #[.int .i64 0]);have HM:=ah hm;clear hk hm hb;go_wp2_with (go_at_call 50;refine HM.out.mono ?_;rintro e2 w2 ⟨rfl,rfl⟩);go_ret;exact ⟨HK.out.alloc HK.out.size _,.inl ⟨hr,_,rfl,hs,HBF.out.below ((bS _ w1).alloc (aL) _)⟩⟩
 ·have HK:=ah hk;have hm:=uL w1 2 (by decide) _ (av.new w1 53 #[.int .i64 2]);have HM:=ah hm;clear hk hm;go_wp2_with (go_at_call 50;refine HM.out.mono ?_;rintro e2 w2 ⟨rfl,rfl⟩);exact ⟨rfl,HK.out.alloc HK.out.size _,.inr ⟨hr,rfl⟩⟩
def amT (w:World) (a0 a1 a2 a3 a4 a5 a6:Int) (e:Ending) (w':World):Prop:=
 Below w w w'/\((eU a0 a1 a2 a3 a4 a5 a6=true/\∃s F,e= .returned (.pointer (some ⟨s,0,none⟩))/\(∀k,F k->w.heap.size<=k)/\Bl w' F s 0 (uK a0 a1 a2 a3 a4 a5 a6) gL)\/(eU a0 a1 a2 a3 a4 a5 a6=false/\e=raise 2))
theorem adL (a0 a1 a2 a3 a4 a5 a6:Int) (c:Nat) (w:World) (hc:av w c 23 (Be a0 a1 a2 a3 a4 a5 a6)):Calls prog 71 #[.func (.func 72) #[] #[.pointer (some c)]] w (amT w a0 a1 a2 a3 a4 a5 a6):=by
 have hcall:=adJ a0 a1 a2 a3 a4 a5 a6 c w hc;have DL:=ah hcall;clear hc hcall;go_enter func71,ntmps71;go_wp2_with fail;refine DL.out.mono ?_;rintro e1 w1 ⟨hk,⟨hr,s,F,rfl,hs,hb⟩|⟨hr,rfl⟩⟩
 ·have HK:=ah hk;have HBF:=ah hb;have hm:=tO w1 _ (av.new w1 53 #[.int .i64 0]);have HM:=ah hm;clear hk hm hb;go_wp2_with (go_at_call 50;refine HM.out.mono ?_;rintro e2 w2 ⟨rfl,rfl⟩);go_ret;exact ⟨HK.out.alloc HK.out.size _,.inl ⟨hr,_,F,rfl,hs,HBF.out.below ((bS _ w1).alloc (aL) _)⟩⟩
 ·have HK:=ah hk;have hm:=uL w1 2 (by decide) _ (av.new w1 53 #[.int .i64 2]);have HM:=ah hm;clear hk hm;go_wp2_with (go_at_call 50;refine HM.out.mono ?_;rintro e2 w2 ⟨rfl,rfl⟩);exact ⟨rfl,HK.out.alloc HK.out.size _,.inr ⟨hr,rfl⟩⟩
def Ws (w:World) (a0 a1 a2 a3 a4 a5 a6:Int) (e:Ending) (w':World):Prop:=
 Below w w w'/\
  (
   (eU a0 a1 a2 a3 a4 a5 a6=true/\∃ge,∃F:Fp,e= .returned (.tuple #[.pointer (some ⟨ge,0,none⟩),.int .i64 0])/\qI w' F ge (uK a0 a1 a2 a3 a4 a5 a6) dO gL 0/\∀k,F k->w.heap.size<=k)\/
   (eU a0 a1 a2 a3 a4 a5 a6=false/\e= .returned (.tuple #[.pointer none,.int .i64 2])))
theorem NS (w W:World) (a0 a1 a2 a3 a4 a5 a6:Int) (T:Array Value) (v4:Value) (h2:T[2]? =some (.pointer none)) (h3:T[3]? =some (.pointer (some ⟨w+1,0,none⟩)))
 (he:av W (w+1) 53 #[v4]) (hB:Below w w W) (hR:eU a0 a1 a2 a3 a4 a5 a6=false):
 bodyPostD prog Tryz.f38 (Ws w a0 a1 a2 a3 a4 a5 a6) (.panic [{v:= .iface 53 (.int .i64 2),recovered:=false}]) {tmps:=T,defers:= [{target:= .fn (.func 49) #[],args:= #[.pointer (some ⟨w+1,0,none⟩)]}]} W:=by
 refine nD (f:=49) (args:= #[.pointer (some ⟨w+1,0,none⟩)]) (by simp) (by simp[go_sem]) ?_;refine (oQ _ (2:Int) _ W he).mono ?_;rintro e u' w'' ⟨rfl,rfl,rfl⟩;have c4:=(he.ay 0 (.int .i64 2)).cell 0;simp at c4;refine ⟨.tuple #[.pointer none,.int .i64 2],?_,hB.setCell (p:=⟨w+1,0,none⟩) (by simp) _,.inr ⟨hR,rfl⟩⟩;simp[results,results38,go_sem,h2,h3,c4]
theorem JR (a0 a1 a2 a3 a4 a5 a6:Int) (w:World):Calls prog 38 #[.agg (Be a0 a1 a2 a3 a4 a5 a6)] w (Ws w a0 a1 a2 a3 a4 a5 a6):=by
 have hB0:=((bS w w).alloc (aL) (.cells (Be a0 a1 a2 a3 a4 a5 a6) 23)).alloc (by simp) (.cells #[.int .i64 0] 53);have bc0:=(av.new w 23 (Be a0 a1 a2 a3 a4 a5 a6)).alloc (.cells #[.int .i64 0] 53);have Dy:av ((w.alloc (.cells (Be a0 a1 a2 a3 a4 a5 a6) 23)).alloc (.cells #[.int .i64 0] 53)) (w+1) 53 #[.int .i64 0]:=by simpa using av.new (w.alloc (.cells (Be a0 a1 a2 a3 a4 a5 a6) 23)) 53 #[.int .i64 0]
 unfold Be at*;have HB0:=ah hB0;have BC0:=ah bc0;have BE0:=ah Dy;clear hB0 bc0 Dy
 go_enter_defers func38,ntmps38
 go_wp2_with fail;generalize (w.alloc (.cells #[a0,a1,a2,a3,a4,a5,a6] 23)).alloc (.cells #[.int .i64 0] 53)=w0 at*;refine (adK a0 a1 a2 a3 a4 a5 a6 w w0 BC0.out).mono ?_;rintro e1 w1 ⟨hk1,h1⟩;have hB1:Below w w w1:=HB0.out.trans (hk1.mono HB0.out.size);have bc1:av w1 w 23 (Be a0 a1 a2 a3 a4 a5 a6):=BC0.out.below hk1 BC0.out.lt;have zq:=BE0.out.below hk1 BE0.out.lt;have at0:=BE0.out.lt;have hsz:=HB0.out.size;clear hk1 HB0 BC0 BE0;rcases h1 with ⟨hr,s,rfl,hs,hb⟩|⟨hr,rfl⟩
 ·have BC:=ah bc1;have BE:=ah zq;have HB:=ah hB1;have HS:=ah hb;have hsl:=hb.lt s rfl;clear bc1 zq hB1 hb;go_wp2_with fail;refine (adL a0 a1 a2 a3 a4 a5 a6 w w1 BC.out).mono ?_;rintro e2 w2 ⟨hk2,h2⟩;rcases h2 with ⟨_,r,Fr,rfl,hFr,hrf⟩|⟨hr',_⟩
  ·have hz2:=hk2.size;have hB2:Below w w w2:=HB.out.trans (hk2.mono HB.out.size);have vK:=BE.out.below hk2 BE.out.lt;have hs2:=HS.out.below hk2;have Wt:∀k,k≠w.heap.size+1->k<w2.heap.size->((w2.setCell ⟨w+1,0,none⟩ (.int .i64 0)).alloc (.cells #[.pointer (some s),.pointer (some r)] 52)).heap[k]? =w2.heap[k]? :=fun k hk hl=>(yA _ _ _ (by simpa using hl)).trans (lZ _ _ _ _ hk)
   have hs3:=hs2.stay (w':=(w2.setCell ⟨w+1,0,none⟩ (.int .i64 0)).alloc (.cells #[.pointer (some s),.pointer (some r)] 52)) fun k hk=>by
    have e:k=s:=hk;subst e;exact Wt k (by omega) (by omega)
   have hr3:=hrf.stay (w':=(w2.setCell ⟨w+1,0,none⟩ (.int .i64 0)).alloc (.cells #[.pointer (some s),.pointer (some r)] 52)) fun k hk=>Wt k (by have:=hFr k hk;omega) (hrf.lt k hk)
   have hB3:=(hB2.setCell (p:=⟨w+1,0,none⟩) (by simp) (.int .i64 0)).alloc (by have:=hB2.size;simpa using this) (.cells #[.pointer (some s),.pointer (some r)] 52);have hzz:(w2.setCell ⟨w+1,0,none⟩ (.int .i64 0)).heap.size=w2.heap.size:=by simp
   have ba3:=av.new (w2.setCell ⟨w+1,0,none⟩ (.int .i64 0)) 52 #[.pointer (some s),.pointer (some r)];rw[hzz] at ba3;clear hzz;have tX:=(vK.ay 0 (.int .i64 0)).alloc (.cells #[.pointer (some s),.pointer (some r)] 52);have hen:qI ((w2.setCell ⟨w+1,0,none⟩ (.int .i64 0)).alloc (.cells #[.pointer (some s),.pointer (some r)] 52)) ⟨fun k=>k=w2.heap.size\/k=s\/Fr k,Fr⟩ w2 (uK a0 a1 a2 a3 a4 a5 a6) dO gL 0:=
    ⟨s,r,(·=s),Fr,ba3,hs3,hr3,fun k hk hk2=>by have e:k=s:=hk;have:=hFr k hk2;omega,fun e=>by have e':w2.heap.size=s:=e;omega,fun e=>by have:=hrf.lt _ e;omega,fun k=>Iff.rfl,fun k=>Iff.rfl⟩
   have hge:∀k,k=w2.heap.size\/k=s\/Fr k->w.heap.size<=k:=fun k hk=>by
    rcases hk with e|e|e
    ·omega
    ·omega
    ·have:=hFr k e;omega
   have hel:=vK.lt;have c4:=vK.cell 0;have f4:=vK.frozen 0;have c5:=tX.cell 0;simp at c4 c5;have H3:=ah hB3;have O8:=ah hen;have Rm:=ah hge;have HC5:=ah c5;clear hB3 ba3 hs3 hr3 tX vK hs2 hB2 hk2 BE HB HS BC c5 hen hge Wt hrf hFr;go_wp2;refine nD (f:=49) (args:= #[.pointer (some ⟨w+1,0,none⟩)]) (by simp) (by simp[go_sem]) ?_;refine (r9 _ _).mono ?_;rintro e9 u9 w9 ⟨rfl,rfl,rfl⟩;have q:=HC5.out;refine ⟨.tuple #[.pointer (some w2),.int .i64 0],by simp[results,results38,go_sem,q],H3.out,.inl ⟨hr,_,_,rfl,O8.out,Rm.out⟩⟩
  ·rw[hr] at hr';cases hr'
 ·go_wp2;exact NS w _ a0 a1 a2 a3 a4 a5 a6 _ _ rfl rfl zq hB1 hr
section
theorem amV (u0 u1 u2 u3 u4 u5 u6 u7 u8 u9:Value) (w:World):(Instr.field 65 (.agg #[u0,u1,u2,u3,u4,u5,u6,u7,u8,u9]) 8).run prog w= .ok u8 w:=by kernel_rfl
theorem amW (u0 u1 u2 u3 u4 u5 u6 u7 u8 u9:Value) (w:World):(Instr.field 65 (.agg #[u0,u1,u2,u3,u4,u5,u6,u7,u8,u9]) 9).run prog w= .ok u9 w:=by kernel_rfl
attribute [local go_sem] amV amW
section
variable {w:World} {gs gr ge n K:Nat} {c:Cf} {s:Sd} {r:Rc} {Fs Fr:Nat->Prop} {F:Fp}
theorem tQ (h:av w ge 52 #[.pointer (some gs),.pointer (some gr)]):Calls prog 48 #[.pointer (some ge)] w fun e w'=>e= .returned (.bool false)/\w=w':=by
 have x1:=h.cell 1;simp at x1;clear h;go_enter func48,ntmps48;go_wp2;go_ret;exact ⟨rfl,rfl⟩
theorem Bn (h:qI w F ge c s r n) (ho:fu c s K):Calls prog 27 #[.pointer (some ge)] w fun e w'=>e= .returned (.agg (Xk s))/\Below w w w':=by
 obtain ⟨gs,gr,Fs,Fr,h1,h2,_⟩:=h;have hB:=(bS w w).alloc (aL) (.cells #[.int .i64 0,.int .i64 0,.int .i64 0,.int .i64 0,.int .i64 0,.bool false,.int .i64 0,.bool false,.int .i64 0,.bool false] 65);have HZ:=ah (av.new w 65 #[.int .i64 0,.int .i64 0,.int .i64 0,.int .i64 0,.int .i64 0,.bool false,.int .i64 0,.bool false,.int .i64 0,.bool false]);have h1':=h1.alloc (.cells #[.int .i64 0,.int .i64 0,.int .i64 0,.int .i64 0,.int .i64 0,.bool false,.int .i64 0,.bool false,.int .i64 0,.bool false] 65);have x0:=h1'.cell 0;simp at x0;have HN:=ah (tQ h1');have hS:=SE (h2.below hB) ho;unfold Xk at hS ⊢;generalize (if s.wait=true then ((s.polled:Nat):Int) else 0)=q1 at hS ⊢;generalize (if s.wait=true then s.bu else 0)=q2 at hS ⊢;have HS:=ah hS;have HB:=ah hB;clear h1 h2 ho hS hB h1';go_enter func27,ntmps27;go_wp2_with (go_at_call 48;refine HN.out.mono ?_;rintro e1 w1 ⟨rfl,rfl⟩);generalize w.alloc (.cells #[.int .i64 0,.int .i64 0,.int .i64 0,.int .i64 0,.int .i64 0,.bool false,.int .i64 0,.bool false,.int .i64 0,.bool false] 65)=w0 at*;refine HS.out.mono ?_;rintro e2 w2 ⟨rfl,hb2⟩;have hz2:=HZ.out.below hb2 HZ.out.lt;have hbk:Below w w w2:=HB.out.trans (hb2.mono HB.out.size)
 have hr:av ((((((((((w2.setCell w (.int .i64 (s.first:Nat))).setCell ⟨w,1,none⟩ (.int .i64 (dM s:Nat))).setCell ⟨w,2,none⟩ (.int .i64 (s.fG:Nat))).setCell ⟨w,3,none⟩ (.int .i64 (s.bytes:Nat))).setCell ⟨w,4,none⟩ q1).setCell ⟨w,5,none⟩ (.bool s.wait)).setCell ⟨w,6,none⟩ q2).setCell ⟨w,7,none⟩ (.bool s.dI)).setCell ⟨w,8,none⟩ (.int .i64 (s.done:Nat))).setCell ⟨w,9,none⟩ (.bool s.failed)) w 65 #[.int .i64 (s.first:Nat),.int .i64 (dM s:Nat),.int .i64 (s.fG:Nat),.int .i64 (s.bytes:Nat),q1,.bool s.wait,q2,.bool s.dI,.int .i64 (s.done:Nat),.bool s.failed]:=by simpa using ((((((((((hz2.ay 0 (.int .i64 (s.first:Nat))).ay 1 (.int .i64 (dM s:Nat))).ay 2 (.int .i64 (s.fG:Nat))).ay 3 (.int .i64 (s.bytes:Nat))).ay 4 q1).ay 5 (.bool s.wait)).ay 6 q2).ay 7 (.bool s.dI)).ay 8 (.int .i64 (s.done:Nat))).ay 9 (.bool s.failed))
 have c0:=hr.cell 0;have c1:=hr.cell 1;have c2:=hr.cell 2;have c3:=hr.cell 3;have c4:=hr.cell 4;have c5:=hr.cell 5;have c6:=hr.cell 6;have c7:=hr.cell 7;have c8:=hr.cell 8;have c9:=hr.cell 9;simp at c0 c1 c2 c3 c4 c5 c6 c7 c8 c9;have HC:=ah (And.intro c0 (And.intro c1 (And.intro c2 (And.intro c3 (And.intro c4 (And.intro c5 (And.intro c6 (And.intro c7 (And.intro c8 c9)))))))));clear c0 c1 c2 c3 c4 c5 c6 c7 c8 c9 hr;have HR:=ah ((((((((((hbk.setCell (p:=⟨w,0,none⟩) (aL) (.int .i64 (s.first:Nat))).setCell (p:=⟨w,1,none⟩) (aL) (.int .i64 (dM s:Nat))).setCell (p:=⟨w,2,none⟩) (aL) (.int .i64 (s.fG:Nat))).setCell (p:=⟨w,3,none⟩) (aL) (.int .i64 (s.bytes:Nat))).setCell (p:=⟨w,4,none⟩) (aL) q1).setCell (p:=⟨w,5,none⟩) (aL) (.bool s.wait)).setCell (p:=⟨w,6,none⟩) (aL) q2).setCell (p:=⟨w,7,none⟩) (aL) (.bool s.dI)).setCell (p:=⟨w,8,none⟩) (aL) (.int .i64 (s.done:Nat))).setCell (p:=⟨w,9,none⟩) (aL) (.bool s.failed));have z0:=hz2.cell 0;have f0:=hz2.frozen 0;have z1:=hz2.cell 1;have f1:=hz2.frozen 1;have z2:=hz2.cell 2;have f2:=hz2.frozen 2;have z3:=hz2.cell 3;have f3:=hz2.frozen 3;have z4:=hz2.cell 4;have f4:=hz2.frozen 4;have z5:=hz2.cell 5;have f5:=hz2.frozen 5;have z6:=hz2.cell 6;have f6:=hz2.frozen 6;have z7:=hz2.cell 7;have f7:=hz2.frozen 7;have z8:=hz2.cell 8;have f8:=hz2.frozen 8;have z9:=hz2.cell 9;have f9:=hz2.frozen 9;simp at z0 z1 z2 z3 z4 z5 z6 z7 z8 z9;clear hz2 hbk hb2;go_wp2;obtain ⟨c0,c1,c2,c3,c4,c5,c6,c7,c8,c9⟩:=HC.out
 refine oZ (v:= .agg #[.int .i64 (s.first:Nat),.int .i64 (dM s:Nat),.int .i64 (s.fG:Nat),.int .i64 (s.bytes:Nat),q1,.bool s.wait,q2,.bool s.dI,.int .i64 (s.done:Nat),.bool s.failed]) ?_ rfl ?_
 ·simp[results,results27,go_sem,c0,c1,c2,c3,c4,c5,c6,c7,c8,c9]
 ·exact ⟨rfl,HR.out⟩
theorem Dj (h:qI w F ge c s r n) (ho:fu c s K):Calls prog 16 #[.pointer (some ge)] w fun e w'=>e= .returned (.bool s.failed)/\Below w w w':=by
 have hs:=Bn h ho;unfold Xk at hs;generalize (if s.wait=true then ((s.polled:Nat):Int) else 0)=q1 at hs;generalize (if s.wait=true then s.bu else 0)=q2 at hs;have HS:=ah hs;clear h ho hs;go_enter func16,ntmps16;go_wp2_with (go_at_call 27;refine HS.out.mono ?_;rintro e2 w2 ⟨rfl,hb2⟩);go_ret;exact ⟨rfl,hb2⟩
theorem jT (h:qI w F ge c s r n) (ho:fu c s K):Calls prog 25 #[.pointer (some ge)] w fun e w'=>e= .returned (.int .i64 (s.done:Nat))/\Below w w w':=by
 have hs:=Bn h ho;unfold Xk at hs;generalize (if s.wait=true then ((s.polled:Nat):Int) else 0)=q1 at hs;generalize (if s.wait=true then s.bu else 0)=q2 at hs;have HS:=ah hs;clear h ho hs;go_enter func25,ntmps25;go_wp2_with (go_at_call 27;refine HS.out.mono ?_;rintro e2 w2 ⟨rfl,hb2⟩);go_ret;exact ⟨rfl,hb2⟩
theorem Lt (h:qI w F ge c s r n) (now:Int):Calls prog 24 #[.pointer (some ge),now] w fun e w'=>e= .returned (.bool (uV r now))/\Below w w w':=by
 obtain ⟨gs,gr,Fs,Fr,h1,_,h3,_⟩:=h;have x1:=h1.cell 1;simp at x1;have HN:=ah (tQ h1);have HS:=ah (Di h3 now);clear h1 h3;go_enter func24,ntmps24;go_wp2_with (first
  |(go_at_call 48;refine HN.out.mono ?_;rintro e1 w1 ⟨rfl,rfl⟩)
  |(go_at_call 53;refine HS.out.mono ?_;rintro e2 w2 ⟨rfl,hb2⟩))
 go_ret;exact ⟨rfl,hb2⟩
end
end
structure Eh (w:World) (F F':Fp) (ge:Nat) (c:Cf) (s:Sd) (r:Rc) (n:Nat) (x:Value) (W:World):Prop where
 en:qI W F' ge c s r n
 gr:∀k,F' k->F k\/w.heap.size<k
 bs:∀k,F'.b k->F.b k
 kp:Kept (fun k o=>(F k/\(U8 o->F.b k))\/w.heap.size<=k) w W
 bx:av W w 53 #[x]
 lt:∀k,F k->k<w.heap.size
section
variable {w W W':World} {ge n n2:Nat} {c:Cf} {s s2:Sd} {r r2:Rc} {F F':Fp} {x:Value}
theorem Eh.start (h:qI w F ge c s r n) (x:Value):Eh w F F ge c s r n x (w.alloc (.cells #[x] 53)):=
 ⟨h.below ((bS _ w).alloc (aL) _),fun _k hk=> .inl hk,fun _ e=>e,(Kept.refl _ w).alloc _,av.new w _ _,h.lt⟩
theorem Eh.nbx (h:Eh w F F' ge c s r n x W):¬F' w.heap.size:=fun e=>by
 rcases h.gr _ e with e|e
 ·have:=h.lt _ e;omega
 ·omega
theorem Eh.more (h:Eh w F F' ge c s r n x W) (hb:Below W W W'):Eh w F F' ge c s r n x W':=
 ⟨h.en.below hb,h.gr,h.bs,h.kp.trans (Kept.eZ hb),h.bx.below hb h.bx.lt,h.lt⟩
theorem Eh.put (h:Eh w F F' ge c s r n x W) (u:Value):Eh w F F' ge c s r n u (W.setCell w u):=
 ⟨h.en.stay fun k hk=>lZ _ _ _ _ fun e=>h.nbx (by rw[<-show k=w.heap.size from e];exact hk),h.gr,h.bs,h.kp.setCell (p:=⟨w,0,none⟩) (fun _ _=> .inr (aL)) u,by simpa using h.bx.ay 0 u,h.lt⟩
theorem Eh.call (h:Eh w F F' ge c s r n x W) (hG:TQ W F' ge c s2 r2 n2 W'):∃F2,Eh w F F2 ge c s2 r2 n2 x W':=by
 obtain ⟨F2,a1,a2,ab,a3⟩:=hG;have hb:=h.bx.lt;refine ⟨F2,a1,fun k hk=> ?_,fun k hk=>h.bs k (ab k hk),h.kp.trans (a3.mono fun k o hk=> ?_),(kg a3 hb fun _ e=>h.nbx e.1).trans h.bx,h.lt⟩
 ·rcases a2 k hk with e|e
  ·exact h.gr k e
  ·exact .inr (by omega)
 ·rcases h.gr k hk.1 with e|e
  ·exact .inl ⟨e,fun u=>h.bs k (hk.2 u)⟩
  ·exact .inr (by omega)
theorem Eh.done (h:Eh w F F' ge c s r n x W):TQ w F ge c s r n W:=
 ⟨F',h.en,fun k hk=>(h.gr k hk).imp id fun e=>by omega,h.bs,h.kp.iI fun k o ho hk=>by
  rcases hk with e|e
  ·exact e
  ·have:=lt_of_heap ho;omega⟩
end
section
variable {w:World} {gs gr ge n K:Nat} {c:Cf} {s:Sd} {r:Rc} {Fs Fr:Nat->Prop} {F:Fp}
theorem Dk (h:qI w F ge c s r n) (ho:fu c s K) {A:Option Addr} {m cc:Nat} {x:List UInt8} (hx:Sl w w A m cc (dz x)):
 Calls prog 21 #[.pointer (some ge),.slice A m cc] w fun e w'=>e= .returned (.int .i64 (bV c s x).2)/\TQ w F ge c (bV c s x).1 r n w':=by
 obtain ⟨gs,gr,Fs,Fr,h1,h2,h3,h4,h5,h6,hF⟩:=h;have x0:=h1.cell 0;simp at x0;have HN:=ah (tQ h1);have HS:=ah (Ql h2 ho hx);have HE:=ah (fun w' (hG:Wn w Fs gs c (bV c s x).1 w')=>qI.snd h1 h2 h3 h4 h5 h6 hF hG);clear h1 h2 ho h3 h4 h5 h6 hF hx;go_enter func21,ntmps21;go_wp2_with (first
  |(go_at_call 48;refine HN.out.mono ?_;rintro e1 w1 ⟨rfl,rfl⟩)
  |(go_at_call 58;refine HS.out.mono ?_;rintro e2 w2 ⟨rfl,hG⟩))
 go_ret;exact ⟨rfl,HE.out _ hG⟩
end
section
variable {w:World} {gs gr ge n K:Nat} {c:Cf} {s:Sd} {r:Rc} {Fs Fr:Nat->Prop} {F:Fp}
def GrE (w:World) (F:Fp) (ge:Nat) (c:Cf) (n:Nat) (R:Sd × Rc × List UInt8 × Int) (e:Ending) (w':World):Prop:=
 ∃v,e= .returned (.tuple #[v,R.2.2.2])/\w'.ownsRow w 5 1 v R.2.2.1.length (dz R.2.2.1)/\TQ w F ge c R.1 R.2.1 n w'
theorem zi {Q:Ending->World->Prop} (W:World) (b:Nat) (v x:Value) (T:Array Value) (h6:T[6]? =some v) (h7:T[7]? =some (.pointer (some b))) (he:av W b 53 #[x]) (hQ:Q (.returned (.tuple #[v,x])) W):
 bodyPostD prog Tryz.f18 Q .ret {tmps:=T,defers:= [{target:= .fn (.func 49) #[],args:= #[.pointer (some b)]}]} W:=by
 refine nD (f:=49) (args:= #[.pointer (some b)]) (by simp) (by simp[go_sem]) ?_;refine (r9 _ _).mono ?_;rintro e9 u9 w9 ⟨rfl,rfl,rfl⟩;have c0:=he.cell 0;simp at c0;exact ⟨.tuple #[v,x],by simp[results,results18,go_sem,h6,h7,c0],hQ⟩
theorem Lu {Q:Ending->World->Prop} (W:World) (b:Nat) (v x:Value) (er:Int) (T:Array Value) (h6:T[6]? =some v) (h7:T[7]? =some (.pointer (some b))) (he:av W b 53 #[x]) (hQ:Q (.returned (.tuple #[v,er])) (W.setCell b er)):
 bodyPostD prog Tryz.f18 Q (.panic [{v:= .iface 53 er,recovered:=false}]) {tmps:=T,defers:= [{target:= .fn (.func 49) #[],args:= #[.pointer (some b)]}]} W:=by
 refine nD (f:=49) (args:= #[.pointer (some b)]) (by simp) (by simp[go_sem]) ?_;refine (oQ _ er _ W he).mono ?_;rintro e u' w'' ⟨rfl,rfl,rfl⟩;have c0:=(he.ay 0 er).cell 0;simp at c0;exact ⟨.tuple #[v,er],by simp[results,results18,go_sem,h6,h7,c0],hQ⟩
theorem Gy (h:qI w F ge c s r n) (ho:fu c s K) (hK:K<=80000) (hr:wW c r) (now N:Int) (ed:now<=9223372036854775807) (hN:N<=9223372036854775807):
 Calls prog 18 #[.pointer (some ge),now,N] w (GrE w F ge c n (aF c s r now N)):=by
 have hE:=Eh.start h (.int .i64 0);have hF:=Dj hE.en ho;obtain ⟨gs,gr,Fs,Fr,h1,h2,h3,h4,h5,h6,LP⟩:=id hE.en;have HN:=ah (tQ h1);have HE:=ah hE;obtain ⟨fl,hfl⟩:∃fl,s.failed=fl:=⟨_,rfl⟩
 rw[hfl] at hF;have HF:=ah hF;cases fl with
 |true=>
  have hfin:aF c s r now N=(s,r,[],8):=by unfold aF;rw[bD hfl]
  rw[hfin];clear h ho hr hE hF h1 h2 h3 h4 h5 h6 LP hfl hfin
  go_enter_defers func18,ntmps18
  go_wp2_with (go_at_call 48;refine HN.out.mono ?_;rintro e1 w1 ⟨rfl,rfl⟩);refine HF.out.mono ?_;rintro e2 w2 ⟨rfl,hb2⟩;have hE2:=HE.out.more hb2;have c0:=hE2.bx.cell 0;have f0:=hE2.bx.frozen 0;have Wu:=hE2.put (.int .i64 8);have c3:=Wu.bx.cell 0;simp at c0 c3;go_wp2_with fail;exact ⟨.tuple #[.slice none 0 0,.int .i64 8],by simp[results,results18,go_sem,c3],_,rfl,jl _ _ _ _,Wu.done⟩
 |false=>
  by_cases hn:N<0
  ·have hfin:aF c s r now N=(s,r,[],2):=by unfold aF;rw[aP (by simp[hfl]),bD hn]
   rw[hfin];clear h ho hr hE hF h1 h2 h3 h4 h5 h6 LP hfl hfin
   go_enter_defers func18,ntmps18
   go_wp2_with (go_at_call 48;refine HN.out.mono ?_;rintro e1 w1 ⟨rfl,rfl⟩);refine HF.out.mono ?_;rintro e2 w2 ⟨rfl,hb2⟩;have hE2:=HE.out.more hb2;have c0:=hE2.bx.cell 0;have f0:=hE2.bx.frozen 0;have Wu:=hE2.put (.int .i64 2);have c3:=Wu.bx.cell 0;simp at c0 c3;go_wp2_with fail;exact ⟨.tuple #[.slice none 0 0,.int .i64 2],by simp[results,results18,go_sem,c3],_,rfl,jl _ _ _ _,Wu.done⟩
  ·have hn':decide (N<0)=false:=iP hn;obtain ⟨R,hR⟩:∃R,eY c s now=R:=⟨_,rfl⟩
   obtain ⟨G,hGG⟩:∃G,aF c s r now N=G:=⟨_,rfl⟩
   have hfin:aF c s r now N=if R.2≠0 then (R.1,r,[],R.2)
    else if uV (aM c r now) now=true/\2<=N then (R.1,(dG c (aM c r now) now N).1,(dG c (aM c r now) now N).2.1,((dG c (aM c r now) now N).2.2:Nat))
    else ((aZ c R.1 now N).1,aM c r now,D7 (aZ c R.1 now N).2.1,(aZ c R.1 now N).2.2):=by
    unfold aF;rw[aP (by simp[hfl]),aP hn,hR]
   rw[hGG] at hfin ⊢;have ho2:=ho.tick now ed;rw[hR] at ho2;have lz:=ah hfin;have HO:=ah ho;have Xb:=ah ho2;have HR:=ah hr;have HRR:=ah hR;clear h ho ho2 hr hE hF h1 h2 h3 h4 h5 h6 LP hfl hfin hR hGG
   go_enter_defers func18,ntmps18
   go_wp2_with (go_at_call 48;refine HN.out.mono ?_;rintro e1 w1 ⟨rfl,rfl⟩);refine HF.out.mono ?_;rintro e2 w2 ⟨rfl,hb2⟩;have hE2:=HE.out.more hb2;obtain ⟨gs2,gr2,Fs2,Fr2,h1,h2,h3,h4,h5,h6,LP⟩:=id hE2.en;have x0:=h1.cell 0;simp at x0;have hT:=Wo h2 HO.out (by omega) now ed;rw[HRR.out] at hT;have HT:=ah hT;have HS:=ah (fun w' (hG:Wn w2 Fs2 gs2 c R.1 w')=>hE2.call (qI.snd h1 h2 h3 h4 h5 h6 LP hG));clear hE2 h1 h2 h3 h4 h5 h6 LP hT hb2 HN HE HF HO;go_wp2_with fail;refine HT.out.mono ?_;rintro e3 w3 ⟨rfl,hG⟩;obtain ⟨F3,Wu⟩:=HS.out _ hG;have HE4:=ah (Wu.more ((bS _ w3).alloc (aL) (.cells #[.int .i64 R.2] 53)));clear Wu hG HS HT x0 HRR;obtain ⟨R1,R2⟩:=R;dsimp only at HE4 lz Xb ⊢;by_cases TA:R2=0
   ·subst TA;have HM:=ah (tO w3 _ (av.new w3 53 #[.int .i64 0]));obtain ⟨gs4,gr4,Fs4,Fr4,h1,h2,h3,h4,h5,h6,LP⟩:=id HE4.out.en;have x1:=h1.cell 1;simp at x1;have HT:=ah (Wp h3 HR.out now ed);have HS:=ah (fun w' (hG:RcK (w3.alloc (.cells #[.int .i64 0] 53)) Fr4 gr4 n c (aM c r now) w')=>HE4.out.call (qI.rcv h1 h2 h3 h4 h5 h6 LP hG));clear h1 h2 h3 h4 h5 h6 LP HE4;go_wp2_with (go_at_call 50;refine HM.out.mono ?_;rintro e4 w4 ⟨rfl,rfl⟩);refine HT.out.mono ?_;rintro e5 w5 ⟨rfl,vI⟩;obtain ⟨F5,hE5⟩:=HS.out _ vI;have HE6:=ah (hE5.more ((bS _ w5).alloc (aL) (.cells #[.int .i64 0] 53)));have HM5:=ah (tO w5 _ (av.new w5 53 #[.int .i64 0]));obtain ⟨gs6,gr6,Fs6,Fr6,h1,h2,h3,h4,h5,h6,LP⟩:=id HE6.out.en;have y0:=h1.cell 0;have y1:=h1.cell 1;simp at y0 y1;have HP:=ah (Di h3 now);clear hE5 vI HS HT HM x1 h1 h2 h3 h4 h5 h6 LP;go_wp2_with (go_at_call 50;refine HM5.out.mono ?_;rintro e6 w6 ⟨rfl,rfl⟩);refine HP.out.mono ?_;rintro e7 w7 ⟨rfl,qT⟩;have hE7:=HE6.out.more qT;have HZ7:=ah hE7.kp.size;obtain ⟨gs7,gr7,Fs7,Fr7,h1,h2,h3,h4,h5,h6,LP⟩:=id hE7.en;have z0:=h1.cell 0;have z1:=h1.cell 1;simp at z0 z1;clear qT HE6 HM5 HP y0 y1;obtain ⟨pd,O4⟩:∃pd,uV (aM c r now) now=pd:=⟨_,rfl⟩
    have hG0:=lz.out;rw[aP (by simp),O4] at hG0;rw[O4];clear O4;cases pd with
    |false=>
     have hg:=hG0;rw[aP (by simp)] at hg;clear hG0;have HGR:=ah (JQ h2 Xb.out (by omega) now N ed hN);have HS8:=ah (fun w' (hG:Wn w7 Fs7 gs7 c (aZ c R1 now N).1 w')=>hE7.call (qI.snd h1 h2 h3 h4 h5 h6 LP hG));have HG:=ah hg;clear hg hE7 h1 h2 h3 h4 h5 h6 LP;go_wp2_with fail;refine HGR.out.mono ?_;rintro e8 w8 ⟨v8,rfl,OO,TP⟩;obtain ⟨F8,NT⟩:=HS8.out _ TP;have c8:=NT.bx.cell 0;have f8:=NT.bx.frozen 0;simp at c8;have HE9:=ah (NT.put (.int .i64 (aZ c R1 now N).2.2));have Xq:=ah (bF (aN (i:=0) OO NT.bx (by decide) (.int .i64 (aZ c R1 now N).2.2)) HZ7.out);clear NT TP OO HS8;go_wp2_with fail;refine zi _ _ _ _ _ rfl rfl HE9.out.bx ?_;rw[HG.out];exact ⟨_,rfl,Xq.out,HE9.out.done⟩
    |true=>
     by_cases h2N:2<=N
     ·have hg:=hG0;rw[bD ⟨rfl,h2N⟩] at hg;have d2:decide (2<=N)=true:=iK h2N;clear hG0;have HGR:=ah (Ti h3 (HR.out.goes ed) now ed N hN);have HS8:=ah (fun w' (hG:RcK w7 Fr7 gr7 n c (dG c (aM c r now) now N).1 w')=>hE7.call (qI.rcv h1 h2 h3 h4 h5 h6 LP hG));have HG:=ah hg;clear hg hE7 h1 h2 h3 h4 h5 h6 LP;go_wp2_with fail;refine HGR.out.mono ?_;rintro e8 w8 ⟨v8,rfl,OO,TP⟩;obtain ⟨F8,NT⟩:=HS8.out _ TP;have c8:=NT.bx.cell 0;have f8:=NT.bx.frozen 0;simp at c8;have HE9:=ah (NT.put (.int .i64 ((dG c (aM c r now) now N).2.2:Nat)));have Xq:=ah (bF (aN (i:=0) OO NT.bx (by decide) (.int .i64 ((dG c (aM c r now) now N).2.2:Nat))) HZ7.out);clear NT TP OO HS8;go_wp2_with fail;refine zi _ _ _ _ _ rfl rfl HE9.out.bx ?_;rw[HG.out];exact ⟨_,rfl,Xq.out,HE9.out.done⟩
     ·have hg:=hG0;rw[aP (fun hh=>h2N hh.2)] at hg;have d2:decide (2<=N)=false:=iP h2N;clear hG0;have HGR:=ah (JQ h2 Xb.out (by omega) now N ed hN);have HS8:=ah (fun w' (hG:Wn w7 Fs7 gs7 c (aZ c R1 now N).1 w')=>hE7.call (qI.snd h1 h2 h3 h4 h5 h6 LP hG));have HG:=ah hg;clear hg hE7 h1 h2 h3 h4 h5 h6 LP;go_wp2_with fail;refine HGR.out.mono ?_;rintro e8 w8 ⟨v8,rfl,OO,TP⟩;obtain ⟨F8,NT⟩:=HS8.out _ TP;have c8:=NT.bx.cell 0;have f8:=NT.bx.frozen 0;simp at c8;have HE9:=ah (NT.put (.int .i64 (aZ c R1 now N).2.2));have Xq:=ah (bF (aN (i:=0) OO NT.bx (by decide) (.int .i64 (aZ c R1 now N).2.2)) HZ7.out);clear NT TP OO HS8;go_wp2_with fail;refine zi _ _ _ _ _ rfl rfl HE9.out.bx ?_;rw[HG.out];exact ⟨_,rfl,Xq.out,HE9.out.done⟩
   ·have HM:=ah (uL w3 R2 (by simpa using TA) _ (av.new w3 53 #[R2]));have hg:G=(R1,r,[],R2):=by rw[lz.out,bD TA]
    have HG:=ah hg;clear TA hg;go_wp2_with (go_at_call 50;refine HM.out.mono ?_;rintro e4 w4 ⟨rfl,rfl⟩);refine Lu _ _ _ _ _ _ rfl rfl HE4.out.bx ?_;rw[HG.out];exact ⟨_,rfl,jl _ _ _ _,(HE4.out.put _).done⟩
end
theorem NU {bs:List UInt8} {aA er:Nat}:∀(f:Nat) (more:Bool) (pos:Nat) (acc:List Nk),qC bs aA f more pos acc= .inl er->er=5\/er=9
 |0,false,_,_,h=>by simp[qC] at h
 |_+1,false,_,_,h=>by simp[qC] at h
 |0,true,_,_,h=>by simp[qC] at h;omega
 |f+1,true,pos,acc,h=>by
  rw[qC] at h;split at h
  ·cases h;exact .inl rfl
  ·split at h
   ·exact NU f _ _ _ h
   ·cases h;exact .inr rfl
theorem Wv {bs:List UInt8} {er:Nat} (h:mO bs= .inl er):er=5\/er=9:=by
 unfold mO at h;split at h
 ·cases h;exact .inl rfl
 split at h
 ·cases h;exact .inr rfl
 split at h
 ·cases h;exact NU _ _ _ _ (by assumption)
 ·split at h
  ·cases h
  ·cases h;exact .inr rfl
theorem Lx (b:Nat) (A:Option Addr) (n cc:Nat) (bs:List UInt8) (w:World) (hb:av w b 31 #[.slice A n cc]) (hs:Sl w w A n cc (dz bs)) (hsm:n<=1000000):
 Calls prog 91 #[.pointer (some b)] w (P9 w (mO bs)):=by
 have hB0:=(bS w w).alloc (aL) (.cells #[.int .i64 0,.slice none 0 0] 133);have hcall:=ND A n cc bs _ ((hs.below hB0).more hB0.size) hsm;have b0:=av.new w 133 #[.int .i64 0,.slice none 0 0];have x0:=(hb.alloc (.cells #[.int .i64 0,.slice none 0 0] 133)).cell 0;simp at x0;have DL:=ah hcall;have HB0:=ah hB0;have B0:=ah b0;clear hcall hB0 hb hs b0;go_enter func91,ntmps91;go_wp2_with fail;refine DL.out.mono ?_;rintro e1 w1 ⟨hk,⟨er,hr,rfl⟩|⟨aA,l,A',c',hr,rfl,hn,hfr⟩⟩
 ·have b1:=B0.out.below hk B0.out.lt;have c0:=b1.cell 0;have c1:=b1.cell 1;have f0:=b1.frozen 0;have f1:=b1.frozen 1;have b2:=(b1.ay 0 (.int .i64 0)).ay 1 (.slice none 0 0);simp at b2;have d0:=b2.cell 0;have d1:=b2.cell 1;simp at c0 c1 d0 d1;have HK:=ah hk;have HZ:=ah (show w.heap.size<=(w.alloc (.cells #[.int .i64 0,.slice none 0 0] 133)).heap.size by simp);clear hk b1 b2;go_wp2_with fail;refine oZ (v:= .tuple #[.agg #[.int .i64 0,.slice none 0 0],er]) ?_ rfl ?_
  ·simp[results,results91,go_sem,d0,d1]
  ·exact ⟨((HB0.out.trans (HK.out.mono HZ.out)).setCell (p:=⟨w,0,none⟩) (aL) _).setCell (p:=⟨w,1,none⟩) (aL) _,.inl ⟨er,hr,rfl⟩⟩
 ·have b1:=B0.out.below hk B0.out.lt;have c0:=b1.cell 0;have c1:=b1.cell 1;have f0:=b1.frozen 0;have f1:=b1.frozen 1;have b2:=(b1.ay 0 aA).ay 1 (.slice A' l.length c');simp at b2;have d0:=b2.cell 0;have d1:=b2.cell 1;simp at c0 c1 d0 d1;have HK:=ah hk;have HZ:=ah (show (w.alloc (.cells #[.int .i64 0,.slice none 0 0] 133)).heap.size=w.heap.size+1 by simp);have hn2:dD ((w1.setCell w aA).setCell ⟨w,1,none⟩ (.slice A' l.length c')) A' l.length c' l:=
   have hne:∀ad,A'=some ad->ad.block≠w.heap.size:=fun ad e=>by have:=hfr ad e;have:=HZ.out;omega
   (hn.vE hne _).vE hne _
  have HN:=ah hn2;have HF:=ah hfr;clear hk b1 b2 hn hn2 hfr;go_wp2_with fail;refine oZ (v:= .tuple #[.agg #[aA,.slice A' l.length c'],.int .i64 0]) ?_ rfl ?_
  ·simp[results,results91,go_sem,d0,d1]
  ·exact ⟨((HB0.out.trans (HK.out.mono (by have:=HZ.out;omega))).setCell (p:=⟨w,0,none⟩) (aL) _).setCell (p:=⟨w,1,none⟩) (aL) _,.inr ⟨aA,l,A',c',hr,rfl,HN.out,fun ad e=>by have:=HF.out ad e;have:=HZ.out;omega⟩⟩
def ais (w:World) (R:Sum Nat (Nat × List Nk)) (e:Ending) (w':World):Prop:=
 Below w w w'/\((∃er:Nat,R= .inl er/\e=raise er)\/
  (∃(aA:Nat) (l:List Nk) (A:Option Addr) (c:Nat),R= .inr (aA,l)/\e= .returned (.agg #[aA,.slice A l.length c])/\dD w' A l.length c l/\∀ad,A=some ad->w.heap.size<=ad.block))
theorem Qn (b:Nat) (A:Option Addr) (n cc:Nat) (bs:List UInt8) (w:World) (hb:av w b 31 #[.slice A n cc]) (hs:Sl w w A n cc (dz bs)) (hsm:n<=1000000):
 Calls prog 90 #[.func (.func 91) #[] #[.pointer (some b)]] w (ais w (mO bs)):=by
 have hB0:=(bS w w).alloc (aL) (.cells #[.int .i64 0,.slice none 0 0] 133);have hcall:=Lx b A n cc bs _ (hb.alloc (.cells #[.int .i64 0,.slice none 0 0] 133)) ((hs.below hB0).more hB0.size) hsm;have b0:=av.new w 133 #[.int .i64 0,.slice none 0 0];have HZ:=ah (show (w.alloc (.cells #[.int .i64 0,.slice none 0 0] 133)).heap.size=w.heap.size+1 by simp);have HER:=ah (fun er=> @Wv bs er);have DL:=ah hcall;have HB0:=ah hB0;have B0:=ah b0;clear hcall hB0 hb hs b0;go_enter func90,ntmps90;go_wp2_with fail;refine DL.out.mono ?_;rintro e1 w1 ⟨hk,⟨er,hr,rfl⟩|⟨aA,l,A',c',hr,rfl,hn,hfr⟩⟩
 ·have hB1:Below w w w1:=HB0.out.trans (hk.mono (by have:=HZ.out;omega));have TA:((er:Int) !=0)=true:=by rcases HER.out er hr with e|e<;>subst e<;>rfl
  have hB2:=(hB1.alloc hB1.size (.cells #[.int .i64 0,.slice none 0 0] 133)).alloc (by have:=hB1.size;simp;omega) (.cells #[.int .i64 er] 53);have hbe:=av.new (w1.alloc (.cells #[.int .i64 0,.slice none 0 0] 133)) 53 #[.int .i64 er];rw[mZ] at hbe;have HM:=ah (uL (w1+1) (er:Int) TA _ hbe);clear hbe;have HB2:=ah hB2;have HR:=ah hr;clear hk hB1 hB2 TA hr;go_wp2_with (go_at_call 50;refine HM.out.mono ?_;rintro e2 w2 ⟨rfl,rfl⟩);exact ⟨rfl,HB2.out,.inl ⟨er,HR.out,rfl⟩⟩
 ·have hB1:Below w w w1:=HB0.out.trans (hk.mono (by have:=HZ.out;omega));have b1:=B0.out.below hk B0.out.lt;have hB2:=(hB1.alloc hB1.size (.cells #[aA,.slice A' l.length c'] 133)).alloc (by have:=hB1.size;simp;omega) (.cells #[.int .i64 0] 53);have b2:=(b1.alloc (.cells #[aA,.slice A' l.length c'] 133)).alloc (.cells #[.int .i64 0] 53);have hn2:=(hn.alloc (.cells #[aA,.slice A' l.length c'] 133)).alloc (.cells #[.int .i64 0] 53);have hbe:=av.new (w1.alloc (.cells #[aA,.slice A' l.length c'] 133)) 53 #[.int .i64 0];rw[mZ] at hbe;have HM:=ah (tO (w1+1) _ hbe);clear hbe;have q1:=(av.new w1 133 #[aA,.slice A' l.length c']).alloc (.cells #[.int .i64 0] 53);have q0:=q1.cell 0;have q0':=q1.cell 1;have c0:=b2.cell 0;have c1:=b2.cell 1;have f0:=b2.frozen 0;have f1:=b2.frozen 1;have b3:=(b2.ay 0 aA).ay 1 (.slice A' l.length c');simp at b3;have d0:=b3.cell 0;have d1:=b3.cell 1;simp at c0 c1 d0 d1 q0 q0';have hne:∀ad,A'=some ad->ad.block≠w.heap.size:=fun ad e=>by have:=hfr ad e;have:=HZ.out;omega
  have HN:=ah ((hn2.vE (o:=0) hne aA).vE (o:=1) hne (.slice A' l.length c'));have HB2:=ah hB2;have HF:=ah hfr;clear hk b1 b2 b3 hn hn2 hfr hB1 hB2 q1 hne;go_wp2_with (go_at_call 50;refine HM.out.mono ?_;rintro e2 w2 ⟨rfl,rfl⟩);refine oZ (v:= .agg #[aA,.slice A' l.length c']) ?_ rfl ?_
  ·simp[results,results90,go_sem,d0,d1]
  ·exact ⟨(HB2.out.setCell (p:=⟨w,0,none⟩) (aL) _).setCell (p:=⟨w,1,none⟩) (aL) _,.inr ⟨aA,l,A',c',hr,rfl,HN.out,fun ad e=>by have:=HF.out ad e;have:=HZ.out;omega⟩⟩
def amX (w:World) (F:Fp) (ge:Nat) (c:Cf) (s:Sd) (r:Rc) (n:Nat) (now:Int) (R:Sum Nat (Nat × List Nk)) (e:Ending) (w':World):Prop:=
 (∃er:Nat,R= .inl er/\e=raise er/\Below w w w')\/
 (∃Q:Nat × List Nk,R= .inr Q/\e= .returned (.tuple #[.slice none 0 0,.int .i64 (bP c s now (Q.1:Nat) Q.2).2])/\TQ w F ge c (bP c s now (Q.1:Nat) Q.2).1 r n w')
section
variable {w:World} {gs gr ge n K:Nat} {c:Cf} {s:Sd} {r:Rc} {Fs Fr:Nat->Prop} {F:Fp}
theorem TQ.since {w W w':World} {ge n:Nat} {c:Cf} {s:Sd} {r:Rc} {F:Fp} (h:TQ W F ge c s r n w') (hb:Below w w W):TQ w F ge c s r n w':=
 let ⟨F',a1,a2,ab,a3⟩:=h
 ⟨F',a1,fun k hk=>(a2 k hk).imp id fun e=>gG hb.size e,ab,(Kept.eZ hb).trans a3⟩
theorem Gc.drew' {w:World} {Fs:Nat->Prop} {g:Nat} {c:Cf} {s:Sd} (h:Gc w Fs g c s):Gc w.drew Fs g c s:=h.stay fun _ _=>rfl
theorem Bl.drew' {w:World} {Fr:Nat->Prop} {g n:Nat} {c:Cf} {r:Rc} (h:Bl w Fr g n c r):Bl w.drew Fr g n c r:=h.stay fun _ _=>rfl
theorem NV (h:qI w F ge c s r n) (ho:fu c s K) (hK:K<=90000) (now:Int) (ed:now<=9223372036854775807) (A:Option Addr) (m cc:Nat) (bs:List UInt8) (hs:Sl w w A m cc (dz bs)) (hsm:m<=1000000):
 Calls prog 56 #[.pointer (some ge),now,.slice A m cc] w (amX w F ge c s r n now (mO bs)):=by
 have hB0:=(bS w w).alloc (aL) (.cells #[.slice A m cc] 31);have hcall:=Qn w A m cc bs _ (av.new w 31 #[.slice A m cc]) ((hs.below hB0).more hB0.size) hsm;have HZ:=ah (show (w.alloc (.cells #[.slice A m cc] 31)).heap.size=w.heap.size+1 by simp);have HLT:=ah h.lt;have DL:=ah hcall;have HB0:=ah hB0;have HE:=ah h;clear hcall hB0 hs h;go_enter func56,ntmps56;go_wp2_with fail;refine DL.out.mono ?_;rintro e1 w1 ⟨hk,⟨er,hr,rfl⟩|⟨aA,l,A',c',hr,rfl,hn,hfr⟩⟩
 ·have hB1:Below w w w1:=HB0.out.trans (hk.mono (by have:=HZ.out;omega));have HR:=ah hr;clear hr;go_wp2_with fail;exact ⟨rfl,.inl ⟨er,HR.out,rfl,hB1⟩⟩
 ·have hB1:Below w w w1:=HB0.out.trans (hk.mono (by have:=HZ.out;omega));obtain ⟨W,hW⟩:∃W,w1.alloc (.cells #[aA,.slice A' l.length c'] 133)=W:=⟨_,rfl⟩
  have hB2:Below w w W:=by rw[<-hW];exact hB1.alloc hB1.size _
  have hE2:=HE.out.below hB2;have bs2:av W w1 133 #[aA,.slice A' l.length c']:=by rw[<-hW];exact av.new w1 _ _
  have hn2:dD W A' l.length c' l:=by rw[<-hW];exact hn.alloc _
  obtain ⟨gs,gr,Fs,Fr,h1,h2,h3,h4,h5,h6,hF⟩:=id hE2;have x0:=h1.cell 0;have y0:=bs2.cell 0;have y1:=bs2.cell 1;simp at x0 y0 y1;have Vp:W.drew.cell? ge=some (.pointer (some gs)):=x0;have y0':W.drew.cell? w1=some (.int .i64 aA):=y0;have y1':W.drew.cell? ⟨w1,1,none⟩=some (.slice A' l.length c'):=y1;have hst:=Qm (w:=W.drew) h2.drew' ho hK now (aA:Int) ed A' l.length c' l (hn2.drewN 1) (fun ad e _ hf=>by
   have h7:=hfr ad e;have h8:=HLT.out ad.block ((hF.1 ad.block).2 (.inr (.inl hf)));have:=HZ.out;omega)
  have HST:=ah hst;have HS:=ah (fun w' (hG:Wn W.drew Fs gs c (bP c s now (aA:Int) l).1 w')=>qI.snd (w:=W.drew) h1 h2.drew' h3.drew' h4 h5 h6 hF hG);have HB2:=ah hB2;have HR:=ah hr;clear hk hB1 hB2 hE2 bs2 hn2 h1 h2 h3 h4 h5 h6 hF hst hfr hn HE hr;go_upto_region 2 with fail
  clear hW
  go_region_law (go_simp;(with_reducible refine HST.out.mono ?_);rintro e4 w4 ⟨rfl,hG4⟩)
  all_goals
   have hE4:=HS.out _ hG4;have HE4:=ah hE4;clear hE4 hG4;go_wp2_with fail;refine oZ (v:= .tuple #[.slice none 0 0,.int .i64 (bP c s now (aA:Int) l).2]) ?_ rfl ?_
   ·simp[results,results56,go_sem,Act.put]
   ·exact .inr ⟨(aA,l),HR.out,rfl,HE4.out.since HB2.out.drew⟩
end
theorem NW {w:World} {Fr:Nat->Prop} {g n:Nat} {c:Cf} {r:Rc} (h:Bl w Fr g n c r) (ho:wW c r) (hn:n<maxLen) (now:Int) (ed:now<=9223372036854775807) (A:Option Addr) (l cp:Nat) (bs:List UInt8) (hA:∀W,Kept (fun k _=>Fr k) w W->Sl W W.heap.size A l cp (dz bs)) (hsm:l<=1000000):
 Calls prog 57 #[.pointer (some g),now,.slice A l cp] w fun e w'=>∃v n' F' T,e= .returned (.tuple #[v,.int .i64 ((fZ c r now bs).2.2:Nat)])/\n'<=n+1/\
  Bl w' F' g n' c (fZ c r now bs).1/\dU w Fr F'/\Kept (fun k _=>Fr k) w w'/\iO w' w T v (fZ c r now bs).2.1/\∀k,F' k↔T k≠0:=by
 obtain ⟨T,M,vo,h,hF⟩:=h;refine (Lr h ho.ok ho.cf hn now ed A l cp bs (fun W hk=>hA W (hk.mono fun k o hm=>(hF k).2 hm)) hsm).mono ?_;rintro e w' ⟨T',GR,v,n',rfl,hR,hn',hT,hK,hO⟩;refine ⟨v,n',_,T',rfl,hn',Bl.of hR,fun k hk=> ?_,hK.mono fun k o hm=>(hF k).2 hm,hO,fun k=>Iff.rfl⟩;rcases kD k w with hl|hl
 ·have hk2:T' k≠0:=hk;rw[hT k hl] at hk2;exact .inl ((hF k).2 hk2)
 ·exact .inr hl
structure ZD (w:World) (F F':Fp) (ge:Nat) (c:Cf) (s:Sd) (r:Rc) (n:Nat) (x:Value) (W:World):Prop where
 en:qI W F' ge c s r n
 gr:∀k,F' k->F k\/w.heap.size<k
 bs:∀k,F'.b k->F.b k\/w.heap.size<k
 kp:Kept (fun k o=>(F k/\(U8 o->F.b k))\/w.heap.size<=k) w W
 bx:av W w 53 #[x]
 lt:∀k,F k->k<w.heap.size
section
variable {w W W':World} {ge n n2:Nat} {c:Cf} {s s2:Sd} {r r2:Rc} {F F':Fp} {x:Value}
theorem Eh.ait (h:Eh w F F' ge c s r n x W) (F2:Fp) (a1:qI W' F2 ge c s2 r2 n2) (a2:dU W F' F2) (ab:dU W F'.b F2.b) (a3:Kept (fun k o=>F' k/\(U8 o->F'.b k)) W W'):ZD w F F2 ge c s2 r2 n2 x W':=by
 have hb:=h.bx.lt;refine ⟨a1,fun k hk=> ?_,fun k hk=> ?_,h.kp.trans (a3.mono fun k o hk=> ?_),(kg a3 hb fun _ e=>h.nbx e.1).trans h.bx,h.lt⟩
 ·rcases a2 k hk with e|e
  ·exact h.gr k e
  ·exact .inr (by omega)
 ·rcases ab k hk with e|e
  ·exact .inl (h.bs k e)
  ·exact .inr (by omega)
 ·rcases h.gr k hk.1 with e|e
  ·exact .inl ⟨e,fun u=>h.bs k (hk.2 u)⟩
  ·exact .inr (by omega)
theorem ZD.nbx (h:ZD w F F' ge c s r n x W):¬F' w.heap.size:=fun e=>by
 rcases h.gr _ e with e|e
 ·have:=h.lt _ e;omega
 ·omega
theorem ZD.put (h:ZD w F F' ge c s r n x W) (u:Value):ZD w F F' ge c s r n u (W.setCell w u):=
 ⟨h.en.stay fun k hk=>lZ _ _ _ _ fun e=>h.nbx (by rw[<-show k=w.heap.size from e];exact hk),h.gr,h.bs,h.kp.setCell (p:=⟨w,0,none⟩) (fun _ _=> .inr (aL)) u,by simpa using h.bx.ay 0 u,h.lt⟩
theorem Eh.v (h:Eh w F F' ge c s r n x W):ZD w F F' ge c s r n x W:=⟨h.en,h.gr,fun k e=> .inl (h.bs k e),h.kp,h.bx,h.lt⟩
structure Ww (w:World) (F F':Fp) (ge:Nat) (c:Cf) (s:Sd) (r:Rc) (n:Nat) (w':World):Prop where
 en:qI w' F' ge c s r n
 gr:dU w F F'
 gb:dU w F.b F'.b
 kp:Kept (fun k o=>F k/\(U8 o->F.b k)) w w'
theorem ZD.done (h:ZD w F F' ge c s r n x W):Ww w F F' ge c s r n W:=
 ⟨h.en,fun k hk=>(h.gr k hk).imp id fun e=>by omega,fun k hk=>(h.bs k hk).imp id fun e=>by omega,h.kp.iI fun k o ho hk=>by
  rcases hk with e|e
  ·exact e
  ·have:=lt_of_heap ho;omega⟩
theorem iO.put {T:Nat->Nat} {base g i:Nat} {t:TypeId} {v u:Value} {cs:Array Value} {outs:List (List UInt8)} (h:iO W base T v outs) (b:av W g t cs) (h1:31≠t) (h2:5≠t):iO (W.setCell ⟨g,i,none⟩ u) base T v outs:=by
 obtain ⟨vs,k1,k2,k3⟩:=h;exact ⟨vs,aN k1 b h1 u,k2,fun i q hi=>by
  obtain ⟨vi,e1,e2,e3⟩:=k3 i q hi;exact ⟨vi,e1,aN e2 b h2 u,e3⟩⟩
theorem qI.amZ {w w':World} {gs gr ge n n':Nat} {c:Cf} {s:Sd} {r r':Rc} {Fs Fr Fr':Nat->Prop} {F:Fp} (h1:av w ge 52 #[.pointer (some gs),.pointer (some gr)]) (h2:Gc w Fs gs c s) (_h3:Bl w Fr gr n c r) (h4:∀k,Fs k->¬Fr k) (h5:¬Fs ge) (h6:¬Fr ge) (hF:ZB F ge Fs Fr) (a1:Bl w' Fr' gr n' c r') (a2:dU w Fr Fr') (a3:Kept (fun k _=>Fr k) w w'):
 qI w' ⟨fun k=>k=ge\/Fs k\/Fr' k,Fr'⟩ ge c s r' n'/\dU w F (fun k=>k=ge\/Fs k\/Fr' k)/\dU w F.b Fr'/\Kept (fun k o=>F k/\(U8 o->F.b k)) w w':=by
 refine ⟨⟨gs,gr,Fs,Fr',(kg a3 h1.lt fun _=>h6).trans h1,h2.stay fun k hk=>kg a3 (h2.lt k hk) fun _ e=>h4 k hk e,a1,fun k hk hk2=> ?_,h5,fun e=> ?_,fun _=>Iff.rfl,fun _=>Iff.rfl⟩,fun k hk=> ?_,fun k hk=> ?_,a3.mono fun k _ e=>⟨(hF.1 k).2 (.inr (.inr e)),fun _=>(hF.2 k).2 e⟩⟩
 ·rcases a2 k hk2 with e|e
  ·exact h4 k hk e
  ·have:=h2.lt k hk;omega
 ·rcases a2 ge e with e|e
  ·exact h6 e
  ·have:=h1.lt;omega
 ·rcases hk with e|e|e
  ·exact .inl ((hF.1 k).2 (.inl e))
  ·exact .inl ((hF.1 k).2 (.inr (.inl e)))
  ·rcases a2 k e with e|e
   ·exact .inl ((hF.1 k).2 (.inr (.inr e)))
   ·exact .inr e
 ·rcases a2 k hk with e|e
  ·exact .inl ((hF.2 k).2 e)
  ·exact .inr e
def am0 (w:World) (F:Fp) (ge:Nat) (c:Cf) (n:Nat) (R:Sd × Rc × List (List UInt8) × Int) (e:Ending) (w':World):Prop:=
 ∃v n' F' T,e= .returned (.tuple #[v,R.2.2.2])/\n'<=n+1/\Ww w F F' ge c R.1 R.2.1 n' w'/\iO w' w T v R.2.2.1/\(∀k,F'.b k->T k≠0)/\∀k,v.ownBlock=some k->¬F' k
end
section
variable {w:World} {gs gr ge n K:Nat} {c:Cf} {s:Sd} {r:Rc} {Fs Fr:Nat->Prop} {F:Fp}
theorem Bo {Q:Ending->World->Prop} (W:World) (b:Nat) (v x:Value) (T:Array Value) (h6:T[6]? =some v) (h7:T[7]? =some (.pointer (some b))) (he:av W b 53 #[x]) (hQ:Q (.returned (.tuple #[v,x])) W):
 bodyPostD prog Tryz.f19 Q .ret {tmps:=T,defers:= [{target:= .fn (.func 49) #[],args:= #[.pointer (some b)]}]} W:=by
 refine nD (f:=49) (args:= #[.pointer (some b)]) (by simp) (by simp[go_sem]) ?_;refine (r9 _ _).mono ?_;rintro e9 u9 w9 ⟨rfl,rfl,rfl⟩;have c0:=he.cell 0;simp at c0;exact ⟨.tuple #[v,x],by simp[results,results19,go_sem,h6,h7,c0],hQ⟩
theorem Gz {Q:Ending->World->Prop} (W:World) (b:Nat) (v x:Value) (er:Int) (T:Array Value) (h6:T[6]? =some v) (h7:T[7]? =some (.pointer (some b))) (he:av W b 53 #[x]) (hQ:Q (.returned (.tuple #[v,er])) (W.setCell b er)):
 bodyPostD prog Tryz.f19 Q (.panic [{v:= .iface 53 er,recovered:=false}]) {tmps:=T,defers:= [{target:= .fn (.func 49) #[],args:= #[.pointer (some b)]}]} W:=by
 refine nD (f:=49) (args:= #[.pointer (some b)]) (by simp) (by simp[go_sem]) ?_;refine (oQ _ er _ W he).mono ?_;rintro e u' w'' ⟨rfl,rfl,rfl⟩;have c0:=(he.ay 0 er).cell 0;simp at c0;exact ⟨.tuple #[v,er],by simp[results,results19,go_sem,h6,h7,c0],hQ⟩
theorem Bp (h:qI w F ge c s r n) (ho:fu c s K) (hK:K<=90000) (hr:wW c r) (hn:n<maxLen) (now:Int) (ed:now<=9223372036854775807) (A:Option Addr) (m cc:Nat) (bs:List UInt8)
 (hs:∀W,Kept (fun k o=>F k/\(U8 o->F.b k)) w W->Sl W W.heap.size A m cc (dz bs)) (hsm:m<=1000000):
 Calls prog 19 #[.pointer (some ge),now,.slice A m cc] w (am0 w F ge c n (aS c s r now bs)):=by
 have hs0:=hs w (Kept.refl _ _);have hlen:bs.length=m:=by simpa using hs0.len
 have hE:=Eh.start h (.int .i64 0);obtain ⟨gs,gr,Fs,Fr,h1,h2,h3,h4,h5,h6,hF⟩:=id hE.en;have x0:=h1.cell 0;have x1:=h1.cell 1;simp at x0 x1;have HN:=ah (tQ h1);have HE:=ah hE;have HS:=ah hs;cases bs with
 |nil=>
  obtain rfl:m=0:=by simpa using hlen.symm
  have Wu:=Eh.start h (.int .i64 5);have c0:=hE.bx.cell 0;have f0:=hE.bx.frozen 0;have c3:=Wu.bx.cell 0;simp at c0 c3;have hR:aS c s r now []=(s,r,[],5):=rfl;rw[hR];clear h ho hr hR hs hs0 hE h1 h2 h3 h4 h5 h6 hF
  go_enter_defers func19,ntmps19
  go_wp2_with (go_at_call 48;refine HN.out.mono ?_;rintro e1 w1 ⟨rfl,rfl⟩);exact ⟨.tuple #[.slice none 0 0,.int .i64 5],by simp[results,results19,go_sem],_,n,F,fun _=>1,rfl,by omega,Wu.v.done,iO.nil _ _ _,fun k _=>by simp,fun k e=>by cases e⟩
 |cons b t=>
  obtain ⟨m,rfl⟩:∃k,m=k+1:=⟨m-1,by simp at hlen;omega⟩
  obtain ⟨ad,rfl,FC,hcl⟩:=hs0.at_ (by omega);have hb0:w.cell? ad=some (.int .u8 b.toNat):=by have:=hcl 0 (bv b) (by simp[dz]);simpa[Addr.add,bv] using this
  have hmn:((m:Int)+1==0)=false:=by simp;omega
  by_cases hlo:b.toNat<128
  ·have hq:(b.toNat:Int)/128=0:=by omega
   obtain ⟨W,hW⟩:∃W,(w.alloc (.cells #[.int .i64 0] 53)).alloc (.cells #[.func (.func 56) #[.pointer (some ge)] #[],.func (.func 57) #[.pointer (some gr)] #[]] 97)=W:=⟨_,rfl⟩
   have hB:Below w w W:=by rw[<-hW];exact ((bS _ w).alloc (aL) _).alloc (by simp) _
   have hEW:Eh w F F ge c s r n (.int .i64 0) W:=by rw[<-hW];exact hE.more ((bS _ _).alloc (aL) _)
   have hsl:Sl W W.heap.size (some ad) (m+1) cc (dz (b::t)):=HS.out W (Kept.eZ hB);have am1:W.cell? ad=some (.int .u8 b.toNat):=(hB.cell FC).trans hb0;have bfn:av W (w+1) 97 #[.func (.func 56) #[.pointer (some ge)] #[],.func (.func 57) #[.pointer (some gr)] #[]]:=by
    rw[<-hW];have:=av.new (w.alloc (.cells #[.int .i64 0] 53)) 97 #[.func (.func 56) #[.pointer (some ge)] #[],.func (.func 57) #[.pointer (some gr)] #[]];rw[mZ] at this;exact this
   have bf0:=bfn.cell 0;simp only[nW,oH] at bf0;have hrep:=NV hEW.en ho hK now ed (some ad) (m+1) cc (b::t) hsl hsm;have Vs:=ah hrep;have HEW:=ah hEW;have hRC:aS c s r now (b::t)=match mO (b::t) with
    | .inl er=>(s,r,[],(er:Nat))
    | .inr R=>((bP c s now (R.1:Nat) R.2).1,r,[],(bP c s now (R.1:Nat) R.2).2):=by
    unfold aS;rw[aP (by simp),bD (show ((b::t).headD 0).toNat<128 from hlo)]
    all_goals (cases mO (b::t)<;>rfl)
   obtain ⟨RR,hRR⟩:∃RR,aS c s r now (b::t)=RR:=⟨_,rfl⟩
   rw[hRR];rw[hRR] at hRC;have HRC:=ah hRC;clear h ho hr hs hs0 hE h1 h2 h3 h4 h5 h6 hF hB hEW hsl hrep hRC hRR HE HS hcl hlen
   go_enter_defers func19,ntmps19
   go_wp2_with (go_at_call 48;refine HN.out.mono ?_;rintro e1 w1 ⟨rfl,rfl⟩);refine Vs.out.mono ?_;rintro e5 w5 (⟨er,hd,rfl,hb5⟩|⟨Q,hd,rfl,hG⟩)
   ·have hRR:=HRC.out;rw[hd] at hRR;dsimp only at hRR;subst hRR;exact Gz _ _ _ _ (er:Int) _ rfl rfl (HEW.out.more hb5).bx ⟨_,n,F,fun _=>1,rfl,by omega,((HEW.out.more hb5).put _).v.done,iO.nil _ _ _,fun _ _=>by simp,fun k e=>by cases e⟩
   ·have hRR:=HRC.out;rw[hd] at hRR;dsimp only at hRR;subst hRR;obtain ⟨F2,hE2⟩:=HEW.out.call hG;have c5:=hE2.bx.cell 0;have f5:=hE2.bx.frozen 0;simp at c5;have HE3:=ah (hE2.put (.int .i64 (bP c s now (Q.1:Nat) Q.2).2));clear hE2 hG hd;go_wp2_with fail;exact Bo _ _ _ _ _ rfl rfl HE3.out.bx ⟨_,n,F2,fun _=>1,rfl,by omega,HE3.out.v.done,iO.nil _ _ _,fun _ _=>by simp,fun k e=>by cases e⟩
  ·have hbl:=b.toNat_lt;have hq:(b.toNat:Int)/128=1:=by omega
   obtain ⟨W,hW⟩:∃W,(w.alloc (.cells #[.int .i64 0] 53)).alloc (.cells #[.func (.func 56) #[.pointer (some ge)] #[],.func (.func 57) #[.pointer (some gr)] #[]] 97)=W:=⟨_,rfl⟩
   have hB:Below w w W:=by rw[<-hW];exact ((bS _ w).alloc (aL) _).alloc (by simp) _
   have hEW:Eh w F F ge c s r n (.int .i64 0) W:=by rw[<-hW];exact hE.more ((bS _ _).alloc (aL) _)
   have hsl:Sl W W.heap.size (some ad) (m+1) cc (dz (b::t)):=HS.out W (Kept.eZ hB);have hBW:Below (w.alloc (.cells #[.int .i64 0] 53)).heap.size (w.alloc (.cells #[.int .i64 0] 53)) W:=by rw[<-hW];exact (bS _ _).alloc (aL) _
   have am1:W.cell? ad=some (.int .u8 b.toNat):=(hB.cell FC).trans hb0;have bfn:av W (w+1) 97 #[.func (.func 56) #[.pointer (some ge)] #[],.func (.func 57) #[.pointer (some gr)] #[]]:=by
    rw[<-hW];have:=av.new (w.alloc (.cells #[.int .i64 0] 53)) 97 #[.func (.func 56) #[.pointer (some ge)] #[],.func (.func 57) #[.pointer (some gr)] #[]];rw[mZ] at this;exact this
   have WU:=bfn.cell 1;simp only[nW,Dn,oH] at WU;have hrc:=NW (h3.below hBW) hr hn now ed (some ad) (m+1) cc (b::t) (fun W2 hk=>HS.out W2 ((Kept.eZ hB).trans (hk.mono fun k o hf=>⟨(hF.1 k).2 (.inr (.inr hf)),fun _=>(hF.2 k).2 hf⟩))) hsm;have aiv:=ah hrc;have Rm:=ah (show ge<W.heap.size from (h1.below hBW h1.lt).lt);have HFS:=ah (fun k hk=>show k<W.heap.size from (h2.below hBW).lt k hk);have Q7:=ah (fun (w5:World) (n':Nat) (F':Nat->Prop) (a1:Bl w5 F' gr n' c (fZ c r now (b::t)).1) (a2:dU W Fr F') (a3:Kept (fun k _=>Fr k) W w5)=>qI.amZ (h1.below hBW h1.lt) (h2.below hBW) (h3.below hBW) h4 h5 h6 hF a1 a2 a3);have HEW:=ah hEW;have HZ:=ah hB.size;have hRC:aS c s r now (b::t)=(s,(fZ c r now (b::t)).1,(fZ c r now (b::t)).2.1,(((fZ c r now (b::t)).2.2:Nat):Int)):=by
    unfold aS;rw[aP (by simp),aP (show ¬((b::t).headD 0).toNat<128 from hlo)]
   rw[hRC];obtain ⟨RR,hRR⟩:∃RR,fZ c r now (b::t)=RR:=⟨_,rfl⟩
   rw[hRR] at aiv Q7 ⊢;clear h ho hr hs hs0 hE h1 h2 h3 h4 h5 h6 hF hB hEW hrc hRC hRR HE HS hcl hlen bfn hBW
   go_enter_defers func19,ntmps19
   go_wp2_with (go_at_call 48;refine HN.out.mono ?_;rintro e1 w1 ⟨rfl,rfl⟩);refine aiv.out.mono ?_;rintro e5 w5 ⟨v5,n5,F5,T5,rfl,hn5,vJ,vI,TI,LH,GV⟩;obtain ⟨q1,q2,q3,q4⟩:=Q7.out w5 n5 F5 vJ vI TI;have hV:=HEW.out.ait _ q1 q2 q3 q4;have c5:=hV.bx.cell 0;have f5:=hV.bx.frozen 0;simp at c5;have HV:=ah (hV.put (.int .i64 (RR.2.2:Nat)));have HO:=ah ((LH.put (i:=0) (u:= .int .i64 (RR.2.2:Nat)) hV.bx (by decide) (by decide)).CW HZ.out);have HT:=ah GV;have hnv:∀k,v5.ownBlock=some k->¬(k=ge\/Fs k\/F5 k):=fun k hk e=>by
    obtain ⟨vs,o1,o2,_⟩:=LH;have h9:=(o1.lt k hk).1;rcases e with e|e|e
    ·have:=Rm.out;omega
    ·have:=HFS.out k e;omega
    ·exact (GV k).1 e (o2 k hk)
   have HNV:=ah hnv;clear hnv hV q1 q2 q3 q4 LH GV vJ vI TI;go_wp2_with fail;exact Bo _ _ _ _ _ rfl rfl HV.out.bx ⟨_,n5,_,T5,rfl,hn5,HV.out.done,HO.out,fun k hk=>(HT.out k).1 hk,HNV.out⟩
end
theorem pU {W:World} {base n:Nat} {v:Value} {xs:List Value} (h:W.ownsRow base 5 1 v n xs) {j:Nat} (hj:v.ownBlock=some j):∃cs fr,W.heap[j]? =some (.cells cs 5 fr):=by
 rcases h.2 with ⟨rfl,_⟩|⟨q,cap,cur,rfl,q1,q2,_⟩
 ·cases hj
 ·have e2:q=j:=by injection hj
  subst e2;exact ⟨_,_,q2⟩
theorem JS {w:World} {b b':Nat} {e e':TypeId} {v:Value} {n:Nat} {xs xs':List Value} (h:w.ownsRow b e 1 v n xs) (h':w.ownsRow b' e' 1 v n xs'):xs=xs':=by
 have l1:=h.1;have l2:=h'.1;rcases h.2 with ⟨rfl,h0⟩|⟨g,cap,cur,rfl,hb,hh,_,_,_,ht⟩
 ·exact (nV (by omega)).trans (nV (by omega)).symm
 ·rcases h'.2 with ⟨e1,_⟩|⟨g',cap',cur',e1,hb',hh',_,_,_,ht'⟩
  ·cases e1
  ·cases e1;rw[hh] at hh';cases hh';exact ht.symm.trans ht'
structure Two (w0:World) (ga gb:Nat) (c:Cf) (sa:Sd) (ra:Rc) (na:Nat) (sb:Sd) (rb:Rc) (nb:Nat) (Fa Fb:Fp) (W:World):Prop where
 oz:Below w0 w0 W
 ea:qI W Fa ga c sa ra na
 eb:qI W Fb gb c sb rb nb
 fa:∀k,Fa k->w0.heap.size<=k/\¬Fb k
 fb:∀k,Fb k->w0.heap.size<=k
def NY (W w0:World) (Fa Fb:Fp) (v:Value) (q:List UInt8):Prop:=W.ownsRow w0 5 1 v q.length (dz q)/\∀k,v.ownBlock=some k->¬Fa.b k/\¬Fb.b k
def Xt (W w0:World) (Fa Fb:Fp) (v:Value) (vs:List Value) (l:List (List UInt8)):Prop:=
 W.ownsRow w0 31 1 v l.length vs/\(∀k,v.ownBlock=some k->¬Fa k/\¬Fb k)/\∀(i:Nat) (q:List UInt8),l[i]? =some q->∃vi,vs[i]? =some vi/\NY W w0 Fa Fb vi q
section
variable {w0 W W':World} {ga gb na nb na' K:Nat} {c:Cf} {sa sb s:Sd} {ra rb r:Rc} {Fa Fb nQ:Fp} {v:Value} {q:List UInt8} {vs:List Value} {l:List (List UInt8)}
theorem Two.swap (h:Two w0 ga gb c sa ra na sb rb nb Fa Fb W):Two w0 gb ga c sb rb nb sa ra na Fb Fa W:=
 ⟨h.oz,h.eb,h.ea,fun k hk=>⟨h.fb k hk,fun e=>(h.fa k e).2 hk⟩,fun k hk=>(h.fa k hk).1⟩
theorem Two.below (h:Two w0 ga gb c sa ra na sb rb nb Fa Fb W) (hb:Below W W W'):Two w0 ga gb c sa ra na sb rb nb Fa Fb W':=
 ⟨h.oz.trans (hb.mono h.oz.size),h.ea.below hb,h.eb.below hb,h.fa,h.fb⟩
theorem Two.call (h:Two w0 ga gb c sa ra na sb rb nb Fa Fb W) (hR:Ww W Fa nQ ga c s r na' W'):Two w0 ga gb c s r na' sb rb nb nQ Fb W':=by
 have hz:=h.oz.size;refine ⟨h.oz.trans (hR.kp.below (fun k _ e=>(h.fa k e.1).1) hz),hR.en,h.eb.stay fun k hk=>kg hR.kp (h.eb.lt k hk) fun o e=>(h.fa k e.1).2 hk,fun k hk=> ?_,h.fb⟩;rcases hR.gr k hk with e|e
 ·exact h.fa k e
 ·exact ⟨by omega,fun e2=>by have:=h.eb.lt k e2;omega⟩
theorem NY.swap (h:NY W w0 Fa Fb v q):NY W w0 Fb Fa v q:=⟨h.1,fun k hk=>(h.2 k hk).symm⟩
theorem NY.below (h:NY W w0 Fa Fb v q) (hb:Below W W W'):NY W' w0 Fa Fb v q:=⟨own_below h.1 hb (aL),h.2⟩
theorem NY.call (h:NY W w0 Fa Fb v q) (hR:Ww W Fa nQ ga c s r na' W'):NY W' w0 nQ Fb v q:=by
 refine ⟨dw h.1 fun k hk=> ?_,fun k hk=>⟨fun e=> ?_,(h.2 k hk).2⟩⟩
 ·obtain ⟨cs,fr,hc⟩:=pU h.1 hk;exact (hR.kp.same _ _ hc fun e=>(h.2 k hk).1 (e.2 ⟨cs,fr,rfl⟩)).trans hc.symm
 ·rcases hR.gb k e with e|e
  ·exact (h.2 k hk).1 e
  ·have:=(h.1.lt k hk).2;omega
theorem NY.sl (h:NY W w0 Fa Fb v q):∃A cc,v= .slice A q.length cc/\Sl W W A q.length cc (dz q):=by
 obtain ⟨A,cc,e,hs,_⟩:=aY h.1;exact ⟨A,cc,e,hs⟩
theorem Xt.swap (h:Xt W w0 Fa Fb v vs l):Xt W w0 Fb Fa v vs l:=⟨h.1,fun k hk=>(h.2.1 k hk).symm,fun i q hi=>let ⟨vi,e,hb⟩:=h.2.2 i q hi;⟨vi,e,hb.swap⟩⟩
theorem Xt.below (h:Xt W w0 Fa Fb v vs l) (hb:Below W W W'):Xt W' w0 Fa Fb v vs l:=⟨own_below h.1 hb (aL),h.2.1,fun i q hi=>let ⟨vi,e,hq⟩:=h.2.2 i q hi;⟨vi,e,hq.below hb⟩⟩
theorem Xt.call (h:Xt W w0 Fa Fb v vs l) (hR:Ww W Fa nQ ga c s r na' W'):Xt W' w0 nQ Fb v vs l:=by
 refine ⟨dw h.1 fun k hk=>kg hR.kp (h.1.lt k hk).2 fun o e=>(h.2.1 k hk).1 e.1,fun k hk=>⟨fun e=> ?_,(h.2.1 k hk).2⟩,fun i q hi=>let ⟨vi,e,hb⟩:=h.2.2 i q hi;⟨vi,e,hb.call hR⟩⟩;rcases hR.gr k e with e|e
 ·exact (h.2.1 k hk).1 e
 ·have:=(h.1.lt k hk).2;omega
theorem TQ.toR (h:TQ W Fa ga c s r na' W'):∃nQ,Ww W Fa nQ ga c s r na' W'/\∀k,nQ.b k->Fa.b k:=by
 obtain ⟨F',a1,a2,ab,a3⟩:=h;exact ⟨F',⟨a1,a2,fun k hk=> .inl (ab k hk),a3⟩,ab⟩
theorem Qp (h:Two w0 ga gb c sa ra na sb rb nb Fa Fb W) (ho:fu c sa K) {A:Option Addr} {m cc:Nat} {x:List UInt8} (hx:Sl W W A m cc (dz x)):
 Calls prog 21 #[.pointer (some ga),.slice A m cc] W fun e W'=>∃nQ,e= .returned (.int .i64 (bV c sa x).2)/\Ww W Fa nQ ga c (bV c sa x).1 ra na W':=by
 refine (Dk h.ea ho hx).mono ?_;rintro e W' ⟨rfl,hG⟩;obtain ⟨nQ,hR,_⟩:=hG.toR;exact ⟨nQ,rfl,hR⟩
theorem JU (h:Two w0 ga gb c sa ra na sb rb nb Fa Fb W) (ho:fu c sa K) (hK:K<=80000) (hr:wW c ra) (now N:Int) (ed:now<=9223372036854775807) (hN:N<=9223372036854775807):
 Calls prog 18 #[.pointer (some ga),now,N] W fun e W'=>∃v nQ,e= .returned (.tuple #[v,.int .i64 (aF c sa ra now N).2.2.2])/\Ww W Fa nQ ga c (aF c sa ra now N).1 (aF c sa ra now N).2.1 na W'/\NY W' w0 nQ Fb v (aF c sa ra now N).2.2.1:=by
 refine (Gy h.ea ho hK hr now N ed hN).mono ?_;rintro e W' ⟨v,rfl,hv,hG⟩;obtain ⟨nQ,hR,hb⟩:=hG.toR;refine ⟨v,nQ,rfl,hR,bF hv h.oz.size,fun k hk=> ?_⟩;have h9:=(hv.lt k hk).1;exact ⟨fun e=>by have:=h.ea.lt k (h.ea.Wq k (hb k e));omega,fun e=>by have:=h.eb.lt k (h.eb.Wq k e);omega⟩
theorem oC (h:Two w0 ga gb c sa ra na sb rb nb Fa Fb W) (ho:fu c sa K) (hK:K<=90000) (hr:wW c ra) (hn:na<maxLen) (now:Int) (ed:now<=9223372036854775807) (A:Option Addr) (m cc:Nat) (bs:List UInt8)
 (hs:∀W2,Kept (fun k o=>Fa k/\(U8 o->Fa.b k)) W W2->Sl W2 W2.heap.size A m cc (dz bs)) (hsm:m<=1000000):
 Calls prog 19 #[.pointer (some ga),now,.slice A m cc] W fun e W'=>∃v vs na' nQ,e= .returned (.tuple #[v,.int .i64 (aS c sa ra now bs).2.2.2])/\na'<=na+1/\Ww W Fa nQ ga c (aS c sa ra now bs).1 (aS c sa ra now bs).2.1 na' W'/\Xt W' w0 nQ Fb v vs (aS c sa ra now bs).2.2.1:=by
 refine (Bp h.ea ho hK hr hn now ed A m cc bs hs hsm).mono ?_;rintro e W' ⟨v,n',F',T,rfl,hn',hR,⟨vs,o1,o2,o3⟩,hT,hV⟩;refine ⟨v,vs,n',F',rfl,hn',hR,bF o1 h.oz.size,fun k hk=>⟨hV k hk,fun e=> ?_⟩,fun i q hi=> ?_⟩
 ·have h9:=(o1.lt k hk).1;have:=h.eb.lt k e;omega
 ·obtain ⟨vi,e1,e2,e3⟩:=o3 i q hi;refine ⟨vi,e1,bF e2 h.oz.size,fun k hk=>⟨fun e=>hT k e (e3 k hk),fun e=> ?_⟩⟩;have h9:=(e2.lt k hk).1;have:=h.eb.lt k (h.eb.Wq k e);omega
theorem NY.arg (h:NY W w0 Fa Fb v q) {A:Option Addr} {n cc:Nat} (e:v= .slice A n cc):∀W2,Kept (fun k o=>Fa k/\(U8 o->Fa.b k)) W W2->Sl W2 W2.heap.size A n cc (dz q):=by
 intro W2 hk;have h2:W2.ownsRow w0 5 1 v q.length (dz q):=dw h.1 fun k hk2=>by
  obtain ⟨cs,fr,hc⟩:=pU h.1 hk2;exact (hk.same _ _ hc fun e=>(h.2 k hk2).1 (e.2 ⟨cs,fr,rfl⟩)).trans hc.symm
 subst e;obtain ⟨A',c',e',hs,_⟩:=aY h2;cases e';exact hs
end
end Go.Proofs.YtbhiklnljiehiaaGreat
