/- A range over a function whose elements a. -/
import Derived.Test.YtbhiklnljiehiaaGreatM3ab
import Derived.Deep.RegionHeld3
namespace Go.Proofs.YtbhiklnljiehiaaGreat
open RowKit Shelf Tryz
section
def OV (F:Fence) (n:Nat) (P:Program) (g:Nat) (lb:Array Value) (vals:Nat->Array Value) (N:Nat) (Kp:World->World->Prop) (w:World):Prop:=
 ∀(l:Nat) (J:Nat->World->Prop) (W:World),Below w w W->AbidesFrom W J->
  (∀k W1,k<N->J k W1->YieldAt F (n-1) P l (vals k) W1 fun e W'=>e= .returned (.bool true)/\J (k+1) W'/\Kp W1 W')->J 0 W->
  CallsIn F n P g (#[.func (.yield l) #[] #[]]++lb) W fun e W'=>(∃v,e= .returned v)/\J N W'
def abD (B:Nat) (Kp:World->World->Prop) (I:Nat->World->Prop) (k:Nat) (W:World):Exit->Act->World->Prop
 | .normal,_,W'=>KeepsFrom B W W'/\Kp W W'/\I k W'
 |_,_,_=>False
variable {F:Fence} {n:Nat} {P:Program}
theorem qp {g:Operand} {ps:Array Tmp} {assign body:Code} {Q:Exit->Act->World->Prop} {a:Act} {w:World}
 (hro:F.round=none) (h1:1<=n) {gf:Nat} {lb:Array Value} (hg:a.eval g= .func (.func gf) #[] lb) (hFg:F.fn gf) (eg:∀args w,(callFunc gf args).run P w= .ok (.enter gf args) w)
 {vals:Nat->Array Value} {N:Nat} {Kp:World->World->Prop} {w0:World} (hseq:OV F (n-1) P gf lb vals N Kp w0)
 (hKt:∀{A B C:World},Kp A B->Kp B C->Kp A C) (hKb:∀(W:World) (l:Nat) (o o':Obj),w.heap.size<=l->W.heap[l]? =some o->o.isCells=false->o.isWalk=false->Kp W (W.putObj l o')) (hb0:Below w0 w0 w)
 (hps:∀k,(vals k).size=ps.size) (I:Nat->World->Prop) (hI:OwnFrom w.heap.size I) (h0:I 0 w) (a₁:Nat->Act)
 (hassign:∀(l k:Nat) (W:World) (K:Act->World->Prop),K (a₁ k) W->
  assign.wpIn (F.inRound l) (n-1-1) P (Exit.then K (fun _ _ _=>False)) {tmps:=(ps.zip (vals k)).foldl (fun t (p,v)=>t.setIfInBounds p v) a.tmps,defers:= []} W)
 (hbody:∀(l k:Nat) (W:World),k<N->I k W->body.wpIn (F.inRound l) (n-1-1) P (abD w.heap.size Kp I (k+1) W) (a₁ k) W)
 (hdone:∀(D:Nat) (W:World),w.heap.size<=D->I N W->W.heap[D]? =some (.deferred (some []))->Q .normal {a with defers:= {target:= .collected D,args:= #[]}::a.defers} W):
 (Code.rangeFunc g ps assign body).wpIn F n P Q a w:=by
 refine wpIn_rangeFunc fun fn hfn=> ?_
 rw[hro]
 let R:LoopState->Loop:=fun st=> {state:=st,pending:=none,fn,tmps:=a.tmps,params:=ps,assign,body,defers:=w.heap.size}
 let W1:=(w.alloc (.deferred (some []))).alloc (.loop (R .ready))
 have hsz:W1.heap.size=w.heap.size+2:=by simp[W1]
 have hL1:W1.heap[w.heap.size+1]? =some (.loop (R .ready)):=by
  have:=World.alloc_heap_new (w.alloc (.deferred (some []))) (.loop (R .ready));rwa [mZ] at this
 have hD1:W1.heap[w.heap.size]? =some (.deferred (some [])):=(yA _ _ _ (by simp)).trans (World.alloc_heap_new w _);have hBW:Below w0 w0 W1:=hb0.trans ((((bS _ w).alloc (aL) _).alloc (by simp) _).mono hb0.size)
 let J:Nat->World->Prop:=fun k W=>I k W/\W.heap[w.heap.size+1]? =some (.loop (R .ready))/\W.heap[w.heap.size]? =some (.deferred (some []))
 have hJ:AbidesFrom W1 J:=fun k A B row hs hgr hr=>by
  have keeps:=fun (i:Nat) (o:Obj) (ho:A.heap[i]? =some o) (hw:o.isWalk=false)=>(grownBy_keeps hgr (fun r e=>(hr r e).2) ho hw).trans ho
  refine ⟨hI k A B row hs.1 hgr (fun r e=> ?_),keeps _ _ hs.2.1 rfl,keeps _ _ hs.2.2 rfl⟩;obtain ⟨h2,o,ho,hw⟩:=hr r e;exact ⟨by omega,o,ho,Obj.not_cells_of_walk hw⟩
 refine ⟨w.heap.size+1,[{target:= .collected w.heap.size,args:= #[]}],W1,{target:= .fn (.func gf) lb,args:= #[.func (.yield (w.heap.size+1)) #[] #[]]},W1,gf,
  #[.func (.yield (w.heap.size+1)) #[] #[]]++lb,W1,run_enterLoop_outer _ _ _ _ _,?_,?_,?_,fun _=>h1,?_⟩
 ·simp only[resolve,hg];simp[go_sem]
 ·intro f' hf';simp[Target.leads] at hf';subst hf';exact hFg
 ·simp[invoke,go_sem,eg]
 refine (hseq (w.heap.size+1) J W1 hBW hJ (fun k W hk hjk=> ?_) ⟨hI.alloc _ (hI.alloc _ h0),hL1,hD1⟩).mono ?_
 ·
  obtain ⟨hi,hl,hd⟩:=hjk;have hlt:w.heap.size+1<W.heap.size:=(uZ.1 hl).1;refine ⟨fn,_,assign,body,run_yield (P:=P) (args:=vals k) hl (hps k),roundIn_of_wpIn hfn (hassign _ k W _ ⟨_,run_beginRound hl rfl,?_⟩)⟩;have hlb:(W.putObj (w.heap.size+1) (.loop (R .busy))).heap[w.heap.size+1]? =some (.loop (R .busy)):=Iw hlt;have hdb:(W.putObj (w.heap.size+1) (.loop (R .busy))).heap[w.heap.size]? =some (.deferred (some [])):=(GX (by omega)).trans hd;refine wpIn_mono (hbody _ k _ hk (hI.putObj _ hi (by omega) hl rfl)) ?_;rintro ex a3 W3 hp;cases ex with
  |normal=>
   obtain ⟨hk3,hkp,hi3⟩:=hp;have hl3:=hk3.same _ _ (by omega) hlb rfl;have hd3:=hk3.same _ _ (aL) hdb rfl;refine ⟨_,_,run_endRound (P:=P) none hl3,rfl,⟨hI.putObj _ hi3 (by omega) hl3 rfl,Iw (uZ.1 hl3).1,(GX (by omega)).trans hd3⟩,?_⟩;exact hKt (hKt (hKb _ _ _ _ (by omega) hl rfl rfl) hkp) (hKb _ _ _ _ (by omega) hl3 rfl rfl)
  |ret=>exact hp.elim
  |exit id=>exact hp.elim
  |goto t=>exact hp.elim
  |panic ch=>exact hp.elim
  |outgrown=>exact hp.elim
 ·
  rintro e W2 ⟨⟨v,rfl⟩,hi,hl,hd⟩;exact ⟨none,_,run_endLoop (P:=P) hl (by simp[R]),hdone _ _ (aL) (hI.putObj _ hi (by omega) hl rfl) ((GX (by omega)).trans hd)⟩
end
section
variable {n:Nat} {P:Program} {Q:Exit->Act->World->Prop}
theorem EX {l:Nat} {o:Oper} {a:Act} {K:Act->World->Prop} {r:Result Next} (h:o.upon P a K Q r):o.uponIn (Fence.wide.inRound l) n P a K Q r:=by
 cases r with
 |ok nx w=>
  cases nx<;>simp only[Oper.upon,Oper.uponIn] at h ⊢
  case value v=>exact h
  case skip=>exact h
  case defer d=>exact h
  case enter f args=>exact ⟨fun hh=>(by cases hh),IE l (xI.2 h)⟩
  case row row args=>exact ⟨fun hh=>(by cases hh),fun c cs _=>let ⟨v,w',r,s⟩:=h c cs;⟨v,w',r,stepsIn_wide.2 s⟩⟩
  all_goals exact h.elim
 |halt x w=>
  cases x<;>simp only[Oper.upon,Oper.uponIn] at h ⊢
  all_goals first|exact h|exact h.elim
def rq (o:Oper):Bool:=match o.op with
 | .defer _=>false
 |_=>true
theorem Kl {o:Oper} (h:rq o=true):∀c,o.op≠ .defer c:=fun c e=>by
 unfold rq at h;rw[e] at h;cases h
variable {ops:Array Oper} {md:Region.Mode} {l:Nat}
theorem EY (hd:ops.toList.all rq=true) (hout:¬LetsOut Q) {i:Nat} {K:Act->World->Prop} {a:Act} {w:World} (h:wpOp P ops Q i K a w):wpOpIn (Fence.wide.inRound l) n P ops Q i K a w:=by
 unfold wpOp at h;unfold wpOpIn;cases ho:ops[i]? with
 |none=>rw[ho] at h;exact h
 |some o=>
  rw[ho] at h;simp only[] at h ⊢;have hp:rq o=true:=by
   rw[Dq] at hd;exact hd o (by rw[Array.mem_toList_iff];exact Array.mem_of_getElem? ho)
  split
  ·rename_i hw;rw[bD hw] at h;rcases h with h|h
   ·refine ⟨fun _ _=>trivial,?_⟩;rw[Oper.semAt_eq _ _ _ (Kl hp)];exact EX h
   ·exact absurd h.2 hout
  ·rename_i hw;rw[aP hw] at h;exact ⟨fun _ _=>trivial,h⟩
theorem jX (hd:ops.toList.all rq=true) (hout:¬LetsOut Q):∀(fuel:Nat) (listed:Array Bool) (a:Act) (w:World),wpAny P md ops Q fuel listed a w->wpAnyIn (Fence.wide.inRound l) n P md ops Q fuel listed a w
 |0,_,_,_,h=>h
 |fuel+1,_,_,_,h=>⟨h.1,fun i hi=>EY hd hout (wpOp_mono (fun a' w' h'=>jX hd hout fuel _ a' w' h') (h.2 i hi))⟩
theorem ru {S:World->Prop} {id:Nat} {a:Act} {w:World} (hm:P.follows .mixedOrders=true) (hd:ops.toList.all rq=true) (hout:¬LetsOut Q) (hS:S w.drew)
 (h:S w.drew->wpAnyH P .any ops Q S ops.size (Array.replicate ops.size false) a w.drew):(Code.region id ops true).wpIn (Fence.wide.inRound l) n P Q a w:=
 wpIn_region_any hm (jX hd hout _ _ _ _ (wpAny_of_held _ _ _ _ (h hS)))
end
end Go.Proofs.YtbhiklnljiehiaaGreat
