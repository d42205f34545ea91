/- A range over a function whose elements are known by their number: the round's body may use which element it is given. A region that draws its order, within a round of a range over a function: it may be walked as outside of one. ampdu.Bounds: the iterator over the bounds of the parts. ampdu.Bounds: what the iterator gives. ampdu.Cut. -/
import Derived.Test.YtiecgfahidpldaaGreatM0ab
import Derived.Test.YtiecgfahidpldaaGreatM0ac
import Derived.Test.YtiecgfahidpldaaGreatM0ad
import Derived.Deep.RegionHeld3
import Derived.Deep.DeepCutAuto
import Derived.Deep.CutBlock
namespace Go.Proofs.YtiecgfahidpldaaGreat
open Go.RowKit Go.Shelf
def sS (F:Fence) (n:Nat) (P:Program) (g:Nat) (lb:Array Value) (vals:Nat→Array Value) (N:Nat) (Kp:World→World→Prop) (w:World):Prop:=
 ∀(l:Nat) (J:Nat→World→Prop) (W:World),Below w.heap.size w W→AbidesFrom W.heap.size J→
  (∀k W1,k<N→J k W1→YieldAt F (n-1) P l (vals k) W1 fun e W'=>e= .returned (.bool true)∧J (k+1) W'∧Kp W1 W')→J 0 W→
  CallsIn F n P g (#[.func (.yield l) #[] #[]]++lb) W fun e W'=>(∃v,e= .returned v)∧J N W'
def Cz (B:Nat) (Kp:World→World→Prop) (I:Nat→World→Prop) (k:Nat) (W:World):Exit→Act→World→Prop
 | .normal,_,W'=>KeepsFrom B W W'∧Kp W W'∧I k W'
 |_,_,_=>False
variable {F:Fence} {n:Nat} {P:Program}
theorem iw {g:Operand} {ps:Array Tmp} {assign body:Code} {Q:Exit→Act→World→Prop} {a:Act} {w:World}
 (hro:F.round=none) (h1:1≤n) {gf:Nat} {lb:Array Value} (hg:a.eval g= .func (.func gf) #[] lb) (hFg:F.fn gf) (eg:∀args w,(callFunc gf args).run P w= .ok (.enter gf args) w)
 {vals:Nat→Array Value} {N:Nat} {Kp:World→World→Prop} {w0:World} (hseq:sS F (n-1) P gf lb vals N Kp w0)
 (hKt:∀{A B C:World},Kp A B→Kp B C→Kp A C) (hKb:∀(W:World) (l:Nat) (o o':Obj),w.heap.size≤l→W.heap[l]? =some o→o.isCells=false→o.isWalk=false→Kp W (W.putObj l o')) (hb0:Below w0.heap.size w0 w)
 (hps:∀k,(vals k).size=ps.size) (I:Nat→World→Prop) (hI:OwnFrom w.heap.size I) (h0:I 0 w) (a₁:Nat→Act)
 (hassign:∀(l k:Nat) (W:World) (K:Act→World→Prop),K (a₁ k) W→
  assign.wpIn (F.inRound l) (n-1-1) P (Exit.then K (fun _ _ _=>False)) {tmps:=(ps.zip (vals k)).foldl (fun t (p,v)=>t.setIfInBounds p v) a.tmps,defers:= []} W)
 (hbody:∀(l k:Nat) (W:World),k<N→I k W→body.wpIn (F.inRound l) (n-1-1) P (Cz w.heap.size Kp I (k+1) W) (a₁ k) W)
 (hdone:∀(D:Nat) (W:World),w.heap.size≤D→I N W→W.heap[D]? =some (.deferred (some []))→Q .normal {a with defers:= {target:= .collected D,args:= #[]}::a.defers} W):
 (Code.rangeFunc g ps assign body).wpIn F n P Q a w:=by
 refine wpIn_rangeFunc fun fn hfn=> ?_
 rw[hro]
 let R:LoopState→Loop:=fun st=> {state:=st,pending:=none,fn,tmps:=a.tmps,params:=ps,assign,body,defers:=w.heap.size}
 let W1:=(w.alloc (.deferred (some []))).alloc (.loop (R .ready))
 have hsz:W1.heap.size=w.heap.size+2:=by simp[W1]
 have hL1:W1.heap[w.heap.size+1]? =some (.loop (R .ready)):=by
  have:=World.alloc_heap_new (w.alloc (.deferred (some []))) (.loop (R .ready));rwa [World.size_alloc] at this
 have hD1:W1.heap[w.heap.size]? =some (.deferred (some [])):=(Below.heap_alloc _ _ _ (by simp)).trans (World.alloc_heap_new w _);have hBW:Below w0.heap.size w0 W1:=hb0.trans ((((Below.refl _ w).alloc (Nat.le_refl _) _).alloc (by simp) _).mono hb0.size)
 let J:Nat→World→Prop:=fun k W=>I k W∧W.heap[w.heap.size+1]? =some (.loop (R .ready))∧W.heap[w.heap.size]? =some (.deferred (some []))
 have hJ:AbidesFrom W1.heap.size J:=fun k A B row hs hgr hr=>by
  have keeps:=fun (i:Nat) (o:Obj) (ho:A.heap[i]? =some o) (hw:o.isWalk=false)=>(grownBy_keeps hgr (fun r e=>(hr r e).2) ho hw).trans ho
  refine ⟨hI k A B row hs.1 hgr (fun r e=> ?_),keeps _ _ hs.2.1 rfl,keeps _ _ hs.2.2 rfl⟩;obtain ⟨h2,o,ho,hw⟩:=hr r e;exact ⟨by omega,o,ho,Obj.not_cells_of_walk hw⟩
 refine ⟨w.heap.size+1,[{target:= .collected w.heap.size,args:= #[]}],W1,{target:= .fn (.func gf) lb,args:= #[.func (.yield (w.heap.size+1)) #[] #[]]},W1,gf,
  #[.func (.yield (w.heap.size+1)) #[] #[]]++lb,W1,run_enterLoop_outer _ _ _ _ _,?_,?_,?_,fun _=>h1,?_⟩
 ·simp only[resolve,hg];simp[go_sem]
 ·intro f' hf';simp[Target.leads] at hf';subst hf';exact hFg
 ·simp[invoke,go_sem,eg]
 refine (hseq (w.heap.size+1) J W1 hBW hJ (fun k W hk hjk=> ?_) ⟨hI.alloc _ (hI.alloc _ h0),hL1,hD1⟩).mono ?_
 ·
  obtain ⟨hi,hl,hd⟩:=hjk;have hlt:w.heap.size+1<W.heap.size:=(Array.getElem?_eq_some_iff.1 hl).1;refine ⟨fn,_,assign,body,run_yield (P:=P) (args:=vals k) hl (hps k),roundIn_of_wpIn hfn (hassign _ k W _ ⟨_,run_beginRound hl rfl,?_⟩)⟩;have hlb:(W.putObj (w.heap.size+1) (.loop (R .busy))).heap[w.heap.size+1]? =some (.loop (R .busy)):=World.putObj_heap_same hlt;have hdb:(W.putObj (w.heap.size+1) (.loop (R .busy))).heap[w.heap.size]? =some (.deferred (some [])):=(World.putObj_heap_other (by omega)).trans hd;refine wpIn_mono (hbody _ k _ hk (hI.putObj _ hi (by omega) hl rfl)) ?_;rintro ex a3 W3 hp;cases ex with
  |normal=>
   obtain ⟨hk3,hkp,hi3⟩:=hp;have hl3:=hk3.same _ _ (by omega) hlb rfl;have hd3:=hk3.same _ _ (Nat.le_refl _) hdb rfl;refine ⟨_,_,run_endRound (P:=P) none hl3,rfl,⟨hI.putObj _ hi3 (by omega) hl3 rfl,World.putObj_heap_same (Array.getElem?_eq_some_iff.1 hl3).1,(World.putObj_heap_other (by omega)).trans hd3⟩,?_⟩;exact hKt (hKt (hKb _ _ _ _ (by omega) hl rfl rfl) hkp) (hKb _ _ _ _ (by omega) hl3 rfl rfl)
  |ret=>exact hp.elim
  |exit id=>exact hp.elim
  |goto t=>exact hp.elim
  |panic ch=>exact hp.elim
  |outgrown=>exact hp.elim
 ·
  rintro e W2 ⟨⟨v,rfl⟩,hi,hl,hd⟩;exact ⟨none,_,run_endLoop (P:=P) hl (by simp[R]),hdone _ _ (Nat.le_refl _) (hI.putObj _ hi (by omega) hl rfl) ((World.putObj_heap_other (by omega)).trans hd)⟩
end Go.Proofs.YtiecgfahidpldaaGreat
namespace Go.Proofs.YtiecgfahidpldaaGreat
open Go.RowKit Go.Shelf
variable {n:Nat} {P:Program} {Q:Exit→Act→World→Prop}
theorem lM {l:Nat} {o:Oper} {a:Act} {K:Act→World→Prop} {r:Result Next} (h:o.upon P a K Q r):o.uponIn (Fence.wide.inRound l) n P a K Q r:=by
 cases r with
 |ok nx w=>
  cases nx<;>simp only[Oper.upon,Oper.uponIn] at h ⊢
  case value v=>exact h
  case skip=>exact h
  case defer d=>exact h
  case enter f args=>exact ⟨fun hh=>(by cases hh),CallsIn.inRound l (callsIn_wide.2 h)⟩
  case row row args=>exact ⟨fun hh=>(by cases hh),fun c cs _=>let ⟨v,w',r,s⟩:=h c cs;⟨v,w',r,stepsIn_wide.2 s⟩⟩
  all_goals exact h.elim
 |halt x w=>
  cases x<;>simp only[Oper.upon,Oper.uponIn] at h ⊢
  all_goals first|exact h|exact h.elim
def gF (o:Oper):Bool:=match o.op with
 | .defer _=>false
 |_=>true
theorem pz {o:Oper} (h:gF o=true):∀c,o.op≠ .defer c:=fun c e=>by
 unfold gF at h;rw[e] at h;cases h
variable {ops:Array Oper} {md:Region.Mode} {l:Nat}
theorem lN (hd:ops.toList.all gF=true) (hout:¬LetsOut Q) {i:Nat} {K:Act→World→Prop} {a:Act} {w:World} (h:wpOp P ops Q i K a w):wpOpIn (Fence.wide.inRound l) n P ops Q i K a w:=by
 unfold wpOp at h;unfold wpOpIn;cases ho:ops[i]? with
 |none=>rw[ho] at h;exact h
 |some o=>
  rw[ho] at h;simp only[] at h ⊢;have hp:gF o=true:=by
   rw[List.all_eq_true] at hd;exact hd o (by rw[Array.mem_toList_iff];exact Array.mem_of_getElem? ho)
  split
  ·rename_i hw;rw[if_pos hw] at h;rcases h with h|h
   ·refine ⟨fun _ _=>trivial,?_⟩;rw[Oper.semAt_eq _ _ _ (pz hp)];exact lM h
   ·exact absurd h.2 hout
  ·rename_i hw;rw[if_neg hw] at h;exact ⟨fun _ _=>trivial,h⟩
theorem dL (hd:ops.toList.all gF=true) (hout:¬LetsOut Q):∀(fuel:Nat) (listed:Array Bool) (a:Act) (w:World),wpAny P md ops Q fuel listed a w→wpAnyIn (Fence.wide.inRound l) n P md ops Q fuel listed a w
 |0,_,_,_,h=>h
 |fuel+1,_,_,_,h=>⟨h.1,fun i hi=>lN hd hout (wpOp_mono (fun a' w' h'=>dL hd hout fuel _ a' w' h') (h.2 i hi))⟩
end Go.Proofs.YtiecgfahidpldaaGreat
namespace Go.Proofs.YtiecgfahidpldaaGreat
open Go.RowKit Go.Shelf
attribute [local go_sem] Oper.semAt_some
def iN (off:Nat) (ps:List (List UInt8)) (k:Nat):List Nat:=(List.range (k+1)).map fun i=>off+aB (ps.take i)
theorem vw (off:Nat) (ps:List (List UInt8)) (k:Nat):iN off ps (k+1)=iN off ps k++ [off+aB (ps.take (k+1))]:=by simp[iN,List.range_succ]
theorem lQ (off:Nat) (ps:List (List UInt8)) (k i:Nat) (h:i≤k):(iN off ps k)[i]? =some (off+aB (ps.take i)):=by
 simp[iN,show i<k+1 by omega]
def qM (w:World) (off:Nat) (ps:List (List UInt8)) (e:Ending) (w':World):Prop:=
 ∃g v,e= .returned (.func (.func 126) #[] #[.pointer (some ⟨g,0,none⟩)])∧w.heap.size≤g∧av w' g 162 #[v]∧w'.ownsRow w.heap.size 3 1 v (ps.length+1) (dx (iN off ps ps.length))∧Below w.heap.size w w'
set_option maxRecDepth 100000 in
set_option maxHeartbeats 2000000 in
theorem sU (sn:Int) (po sg la:Bool) (off:Nat) (s e:Bool) (A:Option Addr) (n c:Nat) (vs:List Value) (ps:List (List UInt8)) (w:World) (h:eH w w.heap.size A n c vs ps) (hn:n≤1000) (hoff:off≤1000000) (hsum:aB ps≤1000000):
 Calls Tryz.prog 73 #[.agg (bC sn po sg la off s e A n c)] w (qM w off ps):=by
 obtain ⟨i0,hi,hz0,hz1,hz2⟩:=info_parts lC;have HL:=Lib.hid h.len;have qE:=Lib.hid hsum;clear hsum;unfold bC;go_enter Tryz.func73,Tryz.ntmps73;go_wp2;have hB0:=(((Below.refl w.heap.size w).alloc (Nat.le_refl _) (.cells (bC sn po sg la off s e A n c) 72)).alloc (by simp) (.cells #[.int .i64 off] 3)).alloc (by simp;omega) (.cells #[.slice (some ⟨w.heap.size+1,0,none⟩) 1 1] 162);have hG0:=av.new ((w.alloc (.cells (bC sn po sg la off s e A n c) 72)).alloc (.cells #[.int .i64 off] 3)) 162 #[.slice (some ⟨w.heap.size+1,0,none⟩) 1 1];simp only[World.size_alloc] at hG0;have Jq:(((w.alloc (.cells (bC sn po sg la off s e A n c) 72)).alloc (.cells #[.int .i64 off] 3)).alloc (.cells #[.slice (some ⟨w.heap.size+1,0,none⟩) 1 1] 162)).ownsRow w.heap.size 3 1 (.slice (some ⟨w.heap.size+1,0,none⟩) 1 1) 1 [.int .i64 off]:=by
  have:=(World.ownsRow_lit (base:=w.heap.size) (e:=3) (size:=1) (w.alloc (.cells (bC sn po sg la off s e A n c) 72)) #[.int .i64 off] 1 (by simp) (by unfold maxLen;omega) rfl).alloc (.cells #[.slice (some ⟨w.heap.size+1,0,none⟩) 1 1] 162);rw[World.size_alloc] at this;exact this
 unfold bC at hB0 hG0 Jq;generalize ((w.alloc (.cells #[.int .i64 sn,.bool po,.bool sg,.bool la,.int .i64 off,.bool s,.bool e,.slice A n c] 72)).alloc (.cells #[.int .i64 off] 3)).alloc (.cells #[.slice (some ⟨w.heap.size+1,0,none⟩) 1 1] 162)=w1 at*
 go_loopw [13] (fun i wr=>∃(k:Nat) (v:Value),k≤n∧i= .int .i64 k∧av wr (w.heap.size+1+1) 162 #[v]∧wr.ownsRow w.heap.size 3 1 v (k+1) (dx (iN off ps k))∧Below w.heap.size w wr) (fun i _=>n-(intOf i).toNat)
 case atStart=>exact ⟨0,_,Nat.zero_le _,rfl,hG0,by simpa[iN,dx,aB] using Jq,hB0⟩
 case round=>
  clear hB0 hG0 Jq;obtain ⟨k,v,hk,rfl,bG,hown,hB⟩:=hrel;by_cases hlt:k<n
  ·obtain ⟨ad,Ai,ci,rfl,hbk,hc,hsl⟩:=(h.below hB).get hlt;have hs1:=dX ps k (by rw[HL.out];exact hlt);have hle1:=Nat.le_trans (bq ps (k+1)) qE.out;have hbs:=vw off ps k;have hlast:=lQ off ps k k (Nat.le_refl _);generalize ps[k]?.getD []=p at*;rw[hs1] at hbs;generalize aB (List.take k ps)=S at*;have hle2:S+p.length≤1000000:=by omega
   have OM:=Lib.hid hbs;clear hs1 hbs hle1;obtain ⟨gv,cap,rfl,hgl,qB⟩:=hown.form (by omega);have hcl:=hown.cellAt k (by omega);have Ew:(dx (iN off ps k))[k]? =some (.int .i64 ((off:Int)+S)):=by simp[dx,hlast]
   rw[Ew] at hcl;clear Ew hlast;have g0:=bG.cell 0;have gf:=bG.frozen 0;simp at g0;have RY:=bG.lt;have hw1:IntKind.i64.wrap ((k:Int)+1)=(k:Int)+1:=IntWalk.i64_in _ (by omega);have hk1:(k:Int)+1-1=k:=by omega
   have hk2:IntKind.i64.wrap (k:Int)=k:=IntWalk.i64_in _ (by omega);have hk3:IntKind.i64.wrap ((off:Int)+S+p.length)=(off:Int)+S+p.length:=IntWalk.i64_in _ (by omega);have hk4:(k:Int)<(k:Int)+1:=by omega
   go_upto_block 1 with (fail)
   go_cut [] (fun wx=>∃(A5:Option Addr) (c5:Nat),av wx (w.heap.size+1+1) 162 #[.slice A5 (k+1+1) c5]∧wx.ownsRow w.heap.size 3 1 (.slice A5 (k+1+1) c5) (k+1+1) (dx (iN off ps (k+1)))∧Below w.heap.size w wx)
   case first=>
    go_wp2
    go_region_law ((refine gW _ (by rfl) _ _ 162 (by rfl) w.heap.size 3 i0 (.int .i64 0) 8 sI hi hz0 hz1 hz2 rfl (.slice (some ⟨gv,0,none⟩) (k+1) cap) (k+1) (dx (iN off ps k)) (by rfl) (World.ownsRow.drew' (hown.alloc (.cells #[.int .i64 ((off:Int)+S+p.length)] 3))) (wr.alloc (.cells #[.int .i64 ((off:Int)+S+p.length)] 3)).heap.size (some ⟨wr.heap.size,0,none⟩) 1 1 [.int .i64 ((off:Int)+S+p.length)] (by rfl) (uy wr (.int .i64 ((off:Int)+S+p.length)) 3) (by simp[Value.oneCell']) (by unfold maxLen;omega) (by omega) (by have:=hB.size;simp;omega) ?_;intro v5 w5 hown5 bZ _;obtain ⟨A5,c5,rfl,hs5,_⟩:=aK hown5;have xE:=(bG.alloc (.cells #[.int .i64 ((off:Int)+S+p.length)] 3)).drew.grown bZ (fun e=>au hown bG (by decide) e.symm);have q2:=xE.cell 0;have q3:=xE.frozen 0;simp at q2))
    all_goals
     have Hw:=xE.aF 0 (.slice A5 (k+1+1) c5);simp at Hw;have hown6:=aD (i:=0) hown5 xE (by decide) (.slice A5 (k+1+1) c5);have lS:=(((hB.alloc hB.size (.cells #[.int .i64 ((off:Int)+S+p.length)] 3)).drew).grown bZ (by have:=hB.size;simp;omega) (fun g hg=>by have:=(hown.lt g hg).1;omega)).setCell (p:=⟨w.heap.size+1+1,0,none⟩) (by simp;omega) (.slice A5 (k+1+1) c5);go_wp2_with fail;go_meet;refine ⟨A5,c5,Hw,?_,lS⟩;rw[OM.out];have e1:dx (iN off ps k++ [off+(S+p.length)])=dx (iN off ps k)++ [.int .i64 ((off:Int)+S+p.length)]:=by simp[dx];omega
     rw[e1];exact hown6
   case rest=>
    obtain ⟨A5,c5,Hw,hown6,lS⟩:=hcut;clear hw1 hk1 hk2 hk3 hk4;go_wp2
    go_roundw
    case rel=>exact ⟨k+1,_,by omega,by go_num,Hw,hown6,lS⟩
    case measure=>simp[intOf];omega
  ·have hkn:k=ps.length:=by rw[HL.out];omega
   rw[hkn] at hown;clear hkn;go_wp2;go_ret;exact ⟨_,_,rfl,by omega,bG,hown,hB⟩
end Go.Proofs.YtiecgfahidpldaaGreat
namespace Go.Proofs.YtiecgfahidpldaaGreat
open Go.RowKit Go.Shelf
attribute [local go_sem] Oper.semAt_some
def pE (off:Nat) (ps:List (List UInt8)) (k:Nat):Array Value:= #[.int .i64 ((off+aB (ps.take k):Nat):Int),.int .i64 ((off+aB (ps.take (k+1)):Nat):Int)]
set_option maxRecDepth 100000 in
set_option maxHeartbeats 2000000 in
theorem qN (n:Nat) (hn:1≤n) (g B:Nat) (v:Value) (off:Nat) (ps:List (List UInt8)) (_hoff:off≤1000000) (hsum:aB ps≤1000000) (hlen:ps.length≤1000) (M:Nat→Obj→Prop) (w:World)
 (hg:av w g 162 #[v]) (hv:w.ownsRow B 3 1 v (ps.length+1) (dx (iN off ps ps.length))) (Mk:¬M g (.cells #[v] 162 (0,0))) (Em:∀k o,v.ownBlock=some k→¬M k o):
 sS Fence.wide n Tryz.prog 126 #[.pointer (some ⟨g,0,none⟩)] (pE off ps) ps.length (Kept M) w:=fun l J W hW _ hY h0=>by
 have hg':=hg.below hW hg.lt;have hv':W.ownsRow B 3 1 v (ps.length+1) (dx (iN off ps ps.length)):=hv.kept (row:=none) ⟨hW.os,hW.tape,hW.output,hW.size,fun k hk _=>hW.block k hk⟩ (by
  rcases hb:v.ownBlock with _|k
  ·exact .inl rfl
  ·exact .inr (by simp))
 have hvk:∀wr,Kept M W wr→wr.ownsRow B 3 1 v (ps.length+1) (dx (iN off ps ps.length)):=fun wr hk=>ig hv' hk (fun k o _ hk2=>Em k o hk2)
 have Jc:=Lib.hid hvk;clear hvk;obtain ⟨gv,cap,rfl,hgl,qB⟩:=hv'.form (by omega);have HY:=Lib.hid hY;clear hY;have hcap:ps.length+1≤cap∧cap≤9223372036854775807:=by
  have hs:=uw hv';exact ⟨hs.cap,hs.mx⟩
 refine callsIn_of_wp Tryz.func126 rfl trivial ?_ rfl;simp only[Tryz.ntmps126,List.size_toArray,List.length_cons,List.length_nil,Nat.reduceAdd,Nat.reduceSub,Array.replicate_succ,Array.replicate_zero,List.push_toArray,List.append_toArray,List.nil_append,List.cons_append];have hcw:=hg'.cell 0;simp at hcw;refine dW ?_
 gi_wp2
 refine wpIn_label ?_
 gi_wp2
 gi_loopw [11] (fun i wr=>∃k:Nat,k≤ps.length∧i= .int .i64 k∧J k wr∧Kept M W wr) (fun i _=>ps.length-(intOf i).toNat)
 case atStart=>exact ⟨0,Nat.zero_le _,by simp,h0,Kept.refl _ _⟩
 case round=>
  obtain ⟨k,hk,rfl,hJs,hnx⟩:=hrel;by_cases hlt:k<ps.length
  ·have En:=Jc.out wr hnx;have hgr:=hg'.kept hnx Mk;have hc0:=hgr.cell 0;simp at hc0;have hck:=En.cellAt k (by omega);have Jr:=En.cellAt (k+1) (by omega);have e0:=lQ off ps ps.length k (by omega);have e1:=lQ off ps ps.length (k+1) (by omega);have yZ:=HY.out k wr hlt hJs;unfold pE at yZ;have b0:aB (ps.take k)≤1000000:=Nat.le_trans (bq ps k) hsum;have b1:aB (ps.take (k+1))≤1000000:=Nat.le_trans (bq ps (k+1)) hsum;simp only[dx,List.getElem?_map,e0,e1,Option.map_some] at hck Jr;generalize off+aB (ps.take k)=a at*;generalize off+aB (ps.take (k+1))=b at*;obtain ⟨fn,tmps,assign,body,hy,hR⟩:=yZ;clear e0 e1 b0 b1 En
   gi_wp2
   refine hR.mono ?_;rintro e W3 ⟨rfl,hJ3,hk3⟩
   gi_wp2
   go_roundw
   case rel=>exact ⟨k+1,by omega,by go_num,hJ3,hnx.trans hk3⟩
   case measure=>simp[intOf];omega
  ·have e:k=ps.length:=by omega
   have xh:J ps.length wr:=by rw[e] at hJs;exact hJs
   clear e hJs
   gi_wp2
   rw[Exit.noGoto_normal]
   go_end0
   exact ⟨⟨_,rfl⟩,xh⟩
end Go.Proofs.YtiecgfahidpldaaGreat
namespace Go.Proofs.YtiecgfahidpldaaGreat
section
open Go.RowKit Go.Shelf
attribute [local go_sem] Oper.semAt_some
theorem av.zL {w:World} {g:Nat} {t:TypeId} {x0 x1 x2 x3 x4 x5 x6 x7:Value} (b:av w g t #[x0,x1,x2,x3,x4,x5,x6,x7]) (u0 u1 u2 u3 u4 u5 u6 u7:Value):
 av ((((((((w.setCell ⟨g,0,none⟩ u0).setCell ⟨g,1,none⟩ u1).setCell ⟨g,2,none⟩ u2).setCell ⟨g,3,none⟩ u3).setCell ⟨g,4,none⟩ u4).setCell ⟨g,5,none⟩ u5).setCell ⟨g,6,none⟩ u6).setCell ⟨g,7,none⟩ u7) g t #[u0,u1,u2,u3,u4,u5,u6,u7]:=by
 have:=(((((((b.aF 0 u0).aF 1 u1).aF 2 u2).aF 3 u3).aF 4 u4).aF 5 u5).aF 6 u6).aF 7 u7;simpa using this
theorem iY {B:Nat} {a w:World} (hb:Below B a w) {g:Nat} (hg:B≤g) (u0 u1 u2 u3 u4 u5 u6 u7:Value):
 Below B a ((((((((w.setCell ⟨g,0,none⟩ u0).setCell ⟨g,1,none⟩ u1).setCell ⟨g,2,none⟩ u2).setCell ⟨g,3,none⟩ u3).setCell ⟨g,4,none⟩ u4).setCell ⟨g,5,none⟩ u5).setCell ⟨g,6,none⟩ u6).setCell ⟨g,7,none⟩ u7):=
 (((((((hb.setCell (p:=⟨g,0,none⟩) hg u0).setCell (p:=⟨g,1,none⟩) hg u1).setCell (p:=⟨g,2,none⟩) hg u2).setCell (p:=⟨g,3,none⟩) hg u3).setCell (p:=⟨g,4,none⟩) hg u4).setCell (p:=⟨g,5,none⟩) hg u5).setCell (p:=⟨g,6,none⟩) hg u6).setCell (p:=⟨g,7,none⟩) hg u7
end
end Go.Proofs.YtiecgfahidpldaaGreat
