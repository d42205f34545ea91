/- amsend: a new PDU is appended to the outstanding ones. amsend: an error is raised and recovered; Tick. amsend: Tick. A region that draws its order: loads first, then stores to cells that it loads: what the loads read is asked only as long as a load may still come up. -/
import Derived.Test.YtiecgfahidpldaaGreatM3af
import Derived.Test.YtiecgfahidpldaaGreatM3ah
import Derived.Test.YtiecgfahidpldaaGreatM3ai
import Derived.Deep.RegionHeld3
namespace Go.Proofs.YtiecgfahidpldaaGreat
section
open Go.RowKit
section
variable {D F:Nat→Prop} {g:Nat} {c:Cf} {st:Sd} {vq vo:Value} {vs os:List Value} {w:World}
theorem dY.grow (h:dY w D F g c st vq vs vo os) {W2 w5:World} {x:Ou} {Ap A5:Option Addr} {cp c5 p base:Nat} (hb2:Below w.heap.size w W2) (hp:aA W2 p 120 (uN x (.slice Ap x.ps.length cp) (.slice none 0 0))) (hpw:w.heap.size≤p)
 (hpo:aN W2 base (.slice Ap x.ps.length cp) x.ps) (hbase:w.heap.size≤base) (hpe:x.pend= []) (_hxp:∀q∈x.ps,1≤q.length)
 (hq:dA w5 0 118 (.slice A5 (st.out.length+1) c5) (st.out.length+1) (os++ [.pointer (some ⟨p,0,none⟩)])) (hg:(W2.alloc (.cells #[.pointer (some ⟨p,0,none⟩)] 118)).grownBy w5 (aL vo))
 (QK:∀k,aL (.slice A5 (st.out.length+1) c5)=some k→aL vo=some k∨(W2.alloc (.cells #[.pointer (some ⟨p,0,none⟩)] 118)).heap.size≤k):
 ∃D' F' vl,dY (w5.setCell ⟨g,12,none⟩ (.slice A5 (st.out.length+1) c5)) D' F' g c {st with out:=st.out++ [x]} vq vs (.slice A5 (st.out.length+1) c5) (os++ [.pointer (some ⟨p,0,none⟩)])∧dX w D D'∧dX w F F'∧
  Kept (fun k _=>D k) w (w5.setCell ⟨g,12,none⟩ (.slice A5 (st.out.length+1) c5))∧gK (w5.setCell ⟨g,12,none⟩ (.slice A5 (st.out.length+1) c5)) D' F' p x Ap cp vl none 0:=by
 have hz2:=hb2.size;have Xp:(W2.alloc (.cells #[.pointer (some ⟨p,0,none⟩)] 118)).heap.size=W2.heap.size+1:=World.size_alloc _ _;have hgl:=h.blk.lt;have hgA:=(h.blk.below hb2 hgl).alloc (.cells #[.pointer (some ⟨p,0,none⟩)] 118);have hg5:=hgA.grown hg (fun e=>h.YP.2 e.symm);have yQ:=hg.size;have MH:(w5.setCell ⟨g,12,none⟩ (.slice A5 (st.out.length+1) c5)).heap.size=w5.heap.size:=by simp[World.setCell]
 have Cc:∀k,k<W2.heap.size→k≠g→aL vo≠some k→(w5.setCell ⟨g,12,none⟩ (.slice A5 (st.out.length+1) c5)).heap[k]? =W2.heap[k]? :=fun k hk hkg hkq=>by
  rw[fB (show k≠(⟨g,12,none⟩:Addr).block from hkg),hg.block k (by omega) (fun e=>hkq e.symm),Below.heap_alloc _ _ k hk]
 have hh:∀k,k<w.heap.size→k≠g→aL vo≠some k→(w5.setCell ⟨g,12,none⟩ (.slice A5 (st.out.length+1) c5)).heap[k]? =w.heap[k]? :=fun k hk hkg hkq=>(Cc k (by omega) hkg hkq).trans (hb2.block k hk)
 have NJ:∀k,F k→k≠g→aL vq≠some k→aL vo≠some k→(w5.setCell ⟨g,12,none⟩ (.slice A5 (st.out.length+1) c5)).heap[k]? =w.heap[k]? :=fun k hf h1 _ h2=>hh k (h.lt k hf) h1 h2
 have hfr:∀k,w.heap.size≤k→k≠g∧aL vo≠some k:=fun k hk=>⟨by omega,fun e=>by have:=(h.nR.lt e).2;omega⟩
 have Xn:=hq.store hg5 (by decide) (i:=12) (.slice A5 (st.out.length+1) c5);have yR:∀k,aL (.slice A5 (st.out.length+1) c5)=some k→D k∨W2.heap.size+1≤k:=fun k hk=>by
  rcases QK k hk with e|e
  ·exact .inl (h.od k e)
  ·exact .inr (by omega)
 have hpl:=hp.lt;have hnn:∀k,F k→¬D k→¬(D k∨k=p∨aL (.slice A5 (st.out.length+1) c5)=some k):=fun k hf hd e=>by
  have:=h.lt k hf;rcases e with e|e|e
  ·exact hd e
  ·omega
  ·rcases yR k e with e|e
   ·exact hd e
   ·omega
 obtain ⟨vl,h1,h2⟩:=hpo;have hfp:(w5.setCell ⟨g,12,none⟩ (.slice A5 (st.out.length+1) c5)).heap[p]? =W2.heap[p]? :=Cc p hpl (hfr p hpw).1 (hfr p hpw).2;have hin:∀(k:Nat),base≤k→k<W2.heap.size→k≠p→(F k∨(w.heap.size≤k∧k<w5.heap.size))∧¬(D k∨k=p∨aL (.slice A5 (st.out.length+1) c5)=some k):=fun k hk1 hk2 hk3=>by
  refine ⟨.inr ⟨by omega,by omega⟩,?_⟩;rintro (e|e|e)
  ·have:=h.lt k (h.sub k e);omega
  ·exact hk3 e
  ·rcases yR k e with e|e
   ·have:=h.lt k (h.sub k e);omega
   ·omega
 have hOx:gK (w5.setCell ⟨g,12,none⟩ (.slice A5 (st.out.length+1) c5)) (fun k=>D k∨k=p∨aL (.slice A5 (st.out.length+1) c5)=some k) (fun k=>F k∨(w.heap.size≤k∧k<w5.heap.size)) p x Ap cp vl none 0:=by
  refine ⟨?_,.inr (.inl rfl),.inr ⟨hpw,by omega⟩,⟨(dZ h1).stay (fun ad e=> ?_),rfl,fun i q hi=> ?_⟩,fun ad e=> ?_,fun i v hv ad e=> ?_,by rw[hpe];exact cZ.nil _,fun ad e=>by cases e⟩
  ·have:aA W2 p 120 (uN x (.slice Ap x.ps.length cp) (.slice none x.pend.length 0)):=by rw[hpe];exact hp
   exact hfp.trans this
  ·subst e;have hl:=h1.lt ad.block rfl;exact Cc _ hl.2 (hfr _ (by omega)).1 (hfr _ (by omega)).2
  ·obtain ⟨A,cq,e,ho⟩:=h2 i q hi;refine ⟨A,cq,e,(dZ ho).stay fun ad ea=> ?_⟩;subst ea;have hl:=ho.lt ad.block rfl;exact Cc _ hl.2 (hfr _ (by omega)).1 (hfr _ (by omega)).2
  ·subst e;have hl:=h1.lt ad.block rfl;exact hin _ hl.1 hl.2 (fun e2=>aF h1 hp (by decide) (by rw[←e2];rfl))
  ·have hil:i<x.ps.length:=by
    have:=(List.getElem?_eq_some_iff.1 hv).1;rw[(dZ h1).len] at this;exact this
   obtain ⟨q,hqi⟩:∃q,x.ps[i]? =some q:=⟨_,List.getElem?_eq_getElem hil⟩
   obtain ⟨A,cq,e2,ho⟩:=h2 i q hqi;rw[e2] at hv;cases hv;have e3:A=some ad:=e;subst e3;have hl:=ho.lt ad.block rfl;exact hin _ hl.1 hl.2 (fun e2=>aF ho hp (by decide) (by rw[←e2];rfl))
 refine ⟨fun k=>D k∨k=p∨aL (.slice A5 (st.out.length+1) c5)=some k,fun k=>F k∨(w.heap.size≤k∧k<w5.heap.size),vl,⟨hg5.aC 12 (.slice A5 (st.out.length+1) c5),.inl h.gd,?_,?_,?_,fun k hk=> .inl (h.qd k hk),?_,?_,fun k hk=> .inr (.inr hk),?_,?_⟩,?_,?_,?_,hOx⟩
 ·rintro k (hk|rfl|hk)
  ·exact .inl (h.sub k hk)
  ·exact .inr ⟨hpw,by omega⟩
  ·rcases yR k hk with e|e
   ·exact .inl (h.sub k e)
   ·exact .inr ⟨by omega,by have:=(Xn.lt hk).2;omega⟩
 ·rintro k (hk|⟨hk1,hk2⟩)
  ·have:=h.lt k hk;omega
  ·omega
 ·exact h.qr.keep fun k hk=>hh k (h.qr.lt hk).2 (fun e=>h.YP.1 (by rw[←e];exact hk)) (h.qne k hk)
 ·intro i q hi;obtain ⟨A,cc,k1,k2,k3⟩:=h.qes NJ i q hi;exact ⟨A,cc,k1,k2,k3.sets (fun k hk=> .inl hk) hnn⟩
 ·have hl:(st.out++ [x]).length=st.out.length+1:=by simp
  show dA _ 0 _ _ (st.out++ [x]).length _
  rw[hl];exact Xn
 ·intro i y hi;have hi':(st.out++ [x])[i]? =some y:=hi;rcases Nat.lt_or_ge i st.out.length with hlt|hge
  ·rw[List.getElem?_append_left hlt] at hi';obtain ⟨p',Ap',cp',vp',J8,KU,k1,k2⟩:=h.oes NJ i y hi';exact ⟨p',Ap',cp',vp',J8,KU,by rw[List.getElem?_append_left (by rw[h.nR.1];exact hlt)];exact k1,k2.sets (fun k hk=> .inl hk) (fun k hk=> .inl hk) hnn⟩
  ·have hi0:i=st.out.length:=by
    have:=(List.getElem?_eq_some_iff.1 hi').1;simp at this;omega
   subst hi0;simp at hi';subst hi';exact ⟨p,Ap,cp,vl,none,0,by rw[←h.nR.1];simp,hOx⟩
 ·intro i j v hi hj;have hol:=h.nR.1;have hold:∀(a:Nat) (u:Value),a<st.out.length→os[a]? =some u→u≠ .pointer (some ⟨p,0,none⟩):=fun a u ha hu e=>by
   obtain ⟨x',hx'⟩:∃x',st.out[a]? =some x':=⟨_,List.getElem?_eq_getElem ha⟩
   obtain ⟨p',_,_,_,_,_,k1,k2⟩:=h.oe a x' hx';rw[hu] at k1;cases k1;cases e;have:=h.lt p k2.f;omega
  have key:∀a u,(os++ [Value.pointer (some ⟨p,0,none⟩)])[a]? =some u→(a<st.out.length∧os[a]? =some u)∨(a=st.out.length∧u= .pointer (some ⟨p,0,none⟩)):=fun a u hu=>by
   rcases Nat.lt_or_ge a st.out.length with hlt|hge
   ·rw[List.getElem?_append_left (by omega)] at hu;exact .inl ⟨hlt,hu⟩
   ·have ha:a=st.out.length:=by
     have:=(List.getElem?_eq_some_iff.1 hu).1;simp at this;omega
    subst ha;rw[List.getElem?_append_right (by omega),hol] at hu;simp at hu;exact .inr ⟨rfl,hu.symm⟩
  rcases key i v hi with ⟨a1,a2⟩|⟨a1,a2⟩<;>rcases key j v hj with ⟨b1,b2⟩|⟨b1,b2⟩
  ·exact h.inj i j v a2 b2
  ·exact absurd b2 (hold i v a1 a2)
  ·exact absurd a2 (hold j v b1 b2)
  ·omega
 ·rintro k (hk|rfl|hk)
  ·exact .inl hk
  ·exact .inr hpw
  ·rcases yR k hk with e|e
   ·exact .inl e
   ·exact .inr (by omega)
 ·rintro k (hk|⟨hk1,hk2⟩)
  ·exact .inl hk
  ·exact .inr hk1
 ·have hk1:Kept (fun k _=>D k) w W2:=(Kept.of_below hb2).gX fun k o ho hm=>by have:=lt_of_heap ho;omega
  exact ((hk1.alloc _).grown hg (fun k hk o ho=>h.od k hk)).setCell (p:=⟨g,12,none⟩) (fun _ _=>h.gd) _
end
end
section
open Go.RowKit Go.Shelf
attribute [local go_sem] Oper.semAt_some
def yU (P:Program) (fn:Func) (c₀:Frame) (cs cs':List Frame) (R:Ending→FrameMode→World→Prop) (e:Exit) (a:Act) (w:World):Prop:=bodyPostS P fn c₀ cs R e a cs' w
theorem fH (be:Nat) (w:World):
 CallsD Tryz.prog 53 #[.pointer (some ⟨be,0,none⟩)] .returning w fun e u' w'=>e= .returned (.tuple #[])∧u'= .returning∧w=w':=by
 have hnn:=run_eql_nil_nil (P:=Tryz.prog) w (t:=20) (by kernel_rfl);refine callsD_of_wpS Tryz.func53 rfl fun c₀ cs hu=> ?_
 apply wpS_seq;apply wpS_region;generalize hQ:Exit.thenS _ _=Q;simp[wpOpsS,go_sem,recoverD,hu,Tryz.ntmps53];subst hQ;simp only[Exit.thenS];refine wpS_of_wp ?_;rw[show (#[.pointer (some ⟨be,0,none⟩)]++((Array.replicate 17 undef).setIfInBounds 4 (.nilIface)).setIfInBounds 1 (.nilIface):Array Value)= #[.pointer (some ⟨be,0,none⟩),undef,.nilIface,undef,undef,.nilIface,undef,undef,undef,undef,undef,undef,undef,undef,undef,undef,undef,undef] from by kernel_rfl];change Code.wp _ _ (yU Tryz.prog Tryz.f53 c₀ cs (c₀::cs) _) _ w;go_wp2;cases c₀
 simp_all [yU,bodyPostS,results,Tryz.results53]
theorem yV (w:World):(Instr.typeAssert (.iface 174 (.agg #[])) 20 174 true).run Tryz.prog w= .ok (.tuple #[.agg #[],.bool true]) w:=by kernel_rfl
set_option maxHeartbeats 400000 in
set_option maxRecDepth 100000 in
theorem mq (be:Nat) (v4:Value) (w:World) (he:aA w be 35 #[v4]):
 CallsD Tryz.prog 53 #[.pointer (some ⟨be,0,none⟩)] (.panicking [{v:= .iface 174 (.agg #[]),recovered:=false}]) w fun e u' w'=>e= .returned (.tuple #[])∧u'= .panicking [{v:= .iface 174 (.agg #[]),recovered:=true}]∧
  (w.alloc (.cells #[] 174)).setCell ⟨be,0,none⟩ (.int .i64 8)=w':=by
 have hnn:=run_eql_held_nil (P:=Tryz.prog) w 20 174 (.agg #[]) (by kernel_rfl);have hta:=yV w;refine callsD_of_wpS Tryz.func53 rfl fun c₀ cs hu=> ?_
 apply wpS_seq;apply wpS_region;generalize hQ:Exit.thenS _ _=Q;simp[wpOpsS,go_sem,recoverD,hu,Tryz.ntmps53];subst hQ;simp only[Exit.thenS];refine wpS_of_wp ?_;rw[show (#[.pointer (some ⟨be,0,none⟩)]++((Array.replicate 17 undef).setIfInBounds 4 (.iface 174 (.agg #[]))).setIfInBounds 1 (.iface 174 (.agg #[])):Array Value)= #[.pointer (some ⟨be,0,none⟩),undef,.iface 174 (.agg #[]),undef,undef,.iface 174 (.agg #[]),undef,undef,undef,undef,undef,undef,undef,undef,undef,undef,undef,undef] from by kernel_rfl];change Code.wp _ _ (yU Tryz.prog Tryz.f53 c₀ cs _ _) _ w;have c4:=(he.alloc (.cells #[] 174)).cell 0;have f4:=(he.alloc (.cells #[] 174)).frozen 0;simp at c4;go_wp2;exact ⟨rfl,_,rfl,.tuple #[],by simp[results,Tryz.results53],rfl,rfl,rfl⟩
end
section
open Go.RowKit Go.Shelf
attribute [local go_sem] Oper.semAt_some
section
variable {D F:Nat→Prop} {g:Nat} {c:Cf} {st:Sd} {vq vo:Value} {vs os:List Value} {w:World}
end
end
section
open Go
section
variable {P:Program} {ops:Array Oper} {Q:Exit→Act→World→Prop} {md:Region.Mode} {S:World→Prop} {L:List Nat}
def kW (L:List Nat) (listed:Array Bool):Bool:=L.all fun d=> !listed.getD d true
def fG (P:Program) (md:Region.Mode) (ops:Array Oper) (Q:Exit→Act→World→Prop) (S:World→Prop) (L:List Nat):Nat→Array Bool→Act→World→Prop
 |0,listed,a,w=>Region.ready md ops listed= []∧Q .normal a w
 |fuel+1,listed,a,w=>
  (Region.ready md ops listed= []→Q .normal a w)∧
  ∀i∈Region.ready md ops listed,wpOp P ops Q i (fun a' w'=>(kW L (listed.setIfInBounds i true)=true→S w')∧fG P md ops Q S L fuel (listed.setIfInBounds i true) a' w') a w
theorem rR:∀(fuel:Nat) (listed:Array Bool) (a:Act) (w:World),fG P md ops Q S L fuel listed a w→wpAny P md ops Q fuel listed a w
 |0,_,_,_,h=>h
 |fuel+1,_,_,_,h=>⟨h.1,fun i hi=>wpOp_mono (fun a' w' h'=>rR fuel _ a' w' h'.2) (h.2 i hi)⟩
theorem xH {listed:Array Bool} {k:Nat} (h3:listed.getD k true=false) (h4:listed.getD k false=true):False:=by
 rcases Nat.lt_or_ge k listed.size with h'|h'
 ·simp[h'] at h3 h4;rw[h3] at h4;cases h4
 ·simp[Array.getElem?_eq_none h'] at h3
theorem mr {listed:Array Bool} {j:Nat} (hj:j∉L):kW L (listed.setIfInBounds j true)=kW L listed:=by
 unfold kW;rw[Bool.eq_iff_iff,List.all_eq_true,List.all_eq_true];constructor
 ·intro h d hd;have:=h d hd
  rwa [getD_set_ne true (fun e=>hj (by rw[e];exact hd))] at this
 ·intro h d hd;rw[getD_set_ne true (fun e=>hj (by rw[e];exact hd))];exact h d hd
def yX (md:Region.Mode) (ops:Array Oper) (W:List Nat) (listed:Array Bool) (i:Nat):Bool:=
 W.all fun j=> !listed.getD j true&&(match ops[j]? with
  |some oj=>oj.after.any fun e=>Region.binds md e&&(e.on==i||W.contains e.on)
  |none=>false)
theorem I7 {W:List Nat} {listed:Array Bool} {i:Nat} (h:yX md ops W listed i=true) (hun:listed.getD i true=false):∀j∈W,j∉Region.ready md ops listed:=by
 intro j hj hr;obtain ⟨hju,oj,hoj,hall⟩:=mem_ready.1 hr;have h1:=List.all_eq_true.1 h j hj;rw[hoj,Bool.and_eq_true] at h1;obtain ⟨e,he,hb⟩:=Array.any_eq_true'.1 h1.2;simp only[Bool.and_eq_true,Bool.or_eq_true,beq_iff_eq] at hb;have h2:=hall e he hb.1;rcases hb.2 with h3|h3
 ·rw[h3] at h2;exact xH hun h2
 ·have h4:=List.all_eq_true.1 h e.on (by simpa using h3);simp only[Bool.and_eq_true,Bool.not_eq_true'] at h4;exact xH h4.1 h2
theorem Lb {W:List Nat} {listed:Array Bool} {i j:Nat} (h:yX md ops W listed i=true) (hj:j∉W):yX md ops W (listed.setIfInBounds j true) i=true:=by
 unfold yX at h ⊢;rw[List.all_eq_true] at h ⊢;intro k hk;have h1:=h k hk
 rwa [getD_set_ne true (fun e=>hj (by rw[e];exact hk))]
theorem FF {W:List Nat} {listed:Array Bool} {i:Nat} (h:yX md ops W listed i=true) (hW:∀d∈L,d∈W):kW L listed=true:=by
 unfold kW;rw[List.all_eq_true];intro d hd;have h1:=List.all_eq_true.1 h d (hW d hd);rw[Bool.and_eq_true] at h1;exact h1.1
section
variable {i:Nat} {oi:Oper} {v:Value} (hi:ops[i]? =some oi) (hsel:∀(j:Nat) (o:Oper) cs b,ops[j]? =some o→o.op≠ .select cs b) (hQ:∀c a w,Q (.panic c) (a.put oi.dst v) w→Q (.panic c) a w)
theorem wo {listed:Array Bool} (hfree:∀j oj,ops[j]? =some oj→j≠i→listed.getD j true=false→(∀e∈oj.after,Region.binds md e=true→e.on≠i)→oi.apart ops oj=true) (j:Nat):
 ∀k ok,ops[k]? =some ok→k≠i→(listed.setIfInBounds j true).getD k true=false→(∀e∈ok.after,Region.binds md e=true→e.on≠i)→oi.apart ops ok=true:=fun k ok hk hki hun hno=>by
 refine hfree k ok hk hki ?_ hno;by_cases hjk:j=k
 ·subst hjk;rcases Nat.lt_or_ge j listed.size with h'|h'
  ·simp[h'] at hun
  ·simp at hun
 ·rw[getD_set_ne true hjk] at hun;exact hun
include hi hsel hQ in
theorem DR (W:List Nat) (hil:i∉L) (hW:∀d∈L,d∈W):∀(fuel:Nat) (listed:Array Bool) (a:Act) (w:World),
 (∀j oj,ops[j]? =some oj→j≠i→listed.getD j true=false→(∀e∈oj.after,Region.binds md e=true→e.on≠i)→oi.apart ops oj=true)→
 i∈Region.ready md ops listed→YieldsIf P ops S oi v a→S w→yX md ops W listed i=true→
 fG P md ops Q S L fuel (listed.setIfInBounds i true) (a.put oi.dst v) w→fG P md ops Q S L (fuel+1) listed a w:=by
 intro fuel
 induction fuel with
 |zero=>
  intro listed a w _ hr hy hS hc H;refine ⟨fun h=>(by rw[h] at hr;cases hr),fun j hj=> ?_⟩;by_cases hji:j=i
  ·subst hji;exact hy.wpOp hi hS ⟨fun _=>hS,H⟩
  ·have:=ready_mono hj hji;rw[H.1] at this;cases this
 |succ fuel ih=>
  intro listed a w hfree hr hy hS hc H;refine ⟨fun h=>(by rw[h] at hr;cases hr),fun j hj=> ?_⟩;by_cases hji:j=i
  ·subst hji;exact hy.wpOp hi hS ⟨fun _=>hS,H⟩
  ·have h1:=H.2 j (ready_mono hj hji);have hjw:j∉W:=fun hm=>I7 hc (mem_ready.1 hr).1 j hm hj
   have hjl:j∉L:=fun hm=>hjw (hW j hm)
   have hcl:=FF hc hW;have YW:kW L ((listed.setIfInBounds i true).setIfInBounds j true)=true:=by rw[mr hjl,mr hil];exact hcl
   obtain ⟨hjun,oj,hoj,hall⟩:=mem_ready.1 hj;have hnot:∀e∈oj.after,Region.binds md e=true→e.on≠i:=fun e he hb heq=>by
    have h1:=hall e he hb;have h0:=(mem_ready.1 hr).1;rw[heq] at h1;exact xH h0 h1
   have h2:=wpOp_putIf hoj (hfree j oj hoj hji hjun hnot) (fun cs b=>hsel i oi cs b hi) (fun cs b=>hsel j oj cs b hoj) hQ hy h1;refine wpOp_mono (fun a' w' h3=>⟨fun _=>h3.2.1 YW,ih (listed.setIfInBounds j true) a' w' (wo hfree j) (ready_mono hr (Ne.symm hji)) h3.1 (h3.2.1 YW) (Lb hc hjw) ?_⟩) h2;rw[Array.setIfInBounds_comm _ _ hji];exact h3.2.2
include hi hsel hQ in
theorem rE (hil:i∉L):∀(fuel:Nat) (listed:Array Bool) (a:Act) (w:World),
 (∀j oj,ops[j]? =some oj→j≠i→listed.getD j true=false→(∀e∈oj.after,Region.binds md e=true→e.on≠i)→oi.apart ops oj=true)→
 i∈Region.ready md ops listed→YieldsIf P ops (fun _=>True) oi v a→(kW L listed=true→S w)→
 fG P md ops Q S L fuel (listed.setIfInBounds i true) (a.put oi.dst v) w→fG P md ops Q S L (fuel+1) listed a w:=by
 intro fuel
 induction fuel with
 |zero=>
  intro listed a w _ hr hy hS H;refine ⟨fun h=>(by rw[h] at hr;cases hr),fun j hj=> ?_⟩;by_cases hji:j=i
  ·subst hji;exact hy.wpOp hi trivial ⟨fun h=>hS (by rwa [mr hil] at h),H⟩
  ·have:=ready_mono hj hji;rw[H.1] at this;cases this
 |succ fuel ih=>
  intro listed a w hfree hr hy hS H;refine ⟨fun h=>(by rw[h] at hr;cases hr),fun j hj=> ?_⟩;by_cases hji:j=i
  ·subst hji;exact hy.wpOp hi trivial ⟨fun h=>hS (by rwa [mr hil] at h),H⟩
  ·have h1:=H.2 j (ready_mono hj hji);obtain ⟨hjun,oj,hoj,hall⟩:=mem_ready.1 hj;have hnot:∀e∈oj.after,Region.binds md e=true→e.on≠i:=fun e he hb heq=>by
    have h1:=hall e he hb;have h0:=(mem_ready.1 hr).1;rw[heq] at h1;exact xH h0 h1
   have hcc:kW L (listed.setIfInBounds j true)=true→kW L ((listed.setIfInBounds i true).setIfInBounds j true)=true:=fun h=>by
    rw[Array.setIfInBounds_comm _ _ (Ne.symm hji),mr hil];exact h
   have h2:=wpOp_putIf hoj (hfree j oj hoj hji hjun hnot) (fun cs b=>hsel i oi cs b hi) (fun cs b=>hsel j oj cs b hoj) hQ hy h1;refine wpOp_mono (fun a' w' h3=>⟨fun h=>h3.2.1 (hcc h),ih (listed.setIfInBounds j true) a' w' (wo hfree j) (ready_mono hr (Ne.symm hji)) h3.1 (fun h=>h3.2.1 (hcc h)) ?_⟩) h2;rw[Array.setIfInBounds_comm _ _ hji];exact h3.2.2
end
theorem ax {i:Nat} {oi:Oper} {v:Value} {fuel:Nat} {listed:Array Bool} {a:Act} {w:World} (W:List Nat) (hi:ops[i]? =some oi)
 (hs:Region.noSelect ops=true) (hf:Region.free md ops listed i=true) (hr:(Region.ready md ops listed).contains i=true) (hl:(!L.contains i&&(yX md ops W listed i&&L.all fun d=>W.contains d))=true)
 (hQ:∀c a w,Q (.panic c) (a.put oi.dst v) w→Q (.panic c) a w) (hy:YieldsIf P ops S oi v a) (hS:S w)
 (h:fG P md ops Q S L fuel (listed.setIfInBounds i true) (a.put oi.dst v) w):fG P md ops Q S L (fuel+1) listed a w:=by
 simp only[Bool.and_eq_true,Bool.not_eq_true'] at hl;exact DR hi (Region.noSelect_spec hs) hQ W (by simpa using hl.1) (fun d hd=>by simpa using List.all_eq_true.1 hl.2.2 d hd) fuel listed a w (Region.free_spec hi hf) (by simpa using hr) hy hS hl.2.1 h
theorem ah {i:Nat} {oi:Oper} {v:Value} {fuel:Nat} {listed:Array Bool} {a:Act} {w:World} (hi:ops[i]? =some oi)
 (hs:Region.noSelect ops=true) (hf:Region.free md ops listed i=true) (hr:(Region.ready md ops listed).contains i=true) (hl:(!L.contains i)=true)
 (hQ:∀c a w,Q (.panic c) (a.put oi.dst v) w→Q (.panic c) a w) (hy:YieldsIf P ops (fun _=>True) oi v a) (hS:S w)
 (h:fG P md ops Q S L fuel (listed.setIfInBounds i true) (a.put oi.dst v) w):fG P md ops Q S L (fuel+1) listed a w:=
 rE hi (Region.noSelect_spec hs) hQ (by simpa using hl) fuel listed a w (Region.free_spec hi hf) (by simpa using hr) hy (fun _=>hS) h
theorem av {i:Nat} {oi:Oper} {v:Value} {fuel:Nat} {listed:Array Bool} {a:Act} {w:World} (hi:ops[i]? =some oi)
 (hs:Region.noSelect ops=true) (hf:Region.free md ops listed i=true) (hr:(Region.ready md ops listed).contains i=true) (hl:(!L.contains i&& !kW L listed)=true)
 (hQ:∀c a w,Q (.panic c) (a.put oi.dst v) w→Q (.panic c) a w) (hy:YieldsIf P ops (fun _=>True) oi v a)
 (h:fG P md ops Q S L fuel (listed.setIfInBounds i true) (a.put oi.dst v) w):fG P md ops Q S L (fuel+1) listed a w:=by
 simp only[Bool.and_eq_true,Bool.not_eq_true'] at hl;exact rE hi (Region.noSelect_spec hs) hQ (by simpa using hl.1) fuel listed a w (Region.free_spec hi hf) (by simpa using hr) hy (fun h=>by rw[hl.2] at h;cases h) h
theorem zzA {α:Type _} {xs:List α} {i:Nat} (h:i<xs.toArray.size):xs.toArray[i]=xs[i]'(by simpa using h):=List.getElem_toArray h
theorem yo {α:Type _} (l:List α) (i:Nat) (a:α):l.toArray.setIfInBounds i a=(l.set i a).toArray:=List.setIfInBounds_toArray l i a
theorem UM {α:Type _} {x:α} {xs:List α} {a:α}:(x::xs).set 0 a=a::xs:=rfl
theorem zzD {α:Type _} {x:α} {xs:List α} {n:Nat} {a:α}:(x::xs).set (n+1) a=x::xs.set n a:=rfl
theorem zzE {α:Type _} {a:α} {xs:List α} {h:0<(a::xs).length}:(a::xs)[0]'h=a:=rfl
theorem zzF {α:Type _} {a:α} {xs:List α} {i:Nat} {h:i+1<(a::xs).length}:(a::xs)[i+1]'h=xs[i]'(Nat.lt_of_succ_lt_succ h):=rfl
theorem tkX (W:List Nat) (i:Nat) {oi:Oper} (v:Value) {fuel:Nat} {listed:Array Bool} {a:Act} {w:World} (hi:ops[i]? =some oi) (hy:YieldsIf P ops S oi v a) (hS:S w)
 (h:fG P md ops Q S L fuel (listed.setIfInBounds i true) (a.put oi.dst v) w)
 (hs:Region.noSelect ops=true:=by kernel_rfl) (hf:Region.free md ops listed i=true:=by kernel_rfl) (hr:(Region.ready md ops listed).contains i=true:=by kernel_rfl) (hl:(!L.contains i&&(yX md ops W listed i&&L.all fun d=>W.contains d))=true:=by kernel_rfl)
 (hQ:∀c a w,Q (.panic c) (a.put oi.dst v) w→Q (.panic c) a w:=by exact fun _ _ _ h=>h):fG P md ops Q S L (fuel+1) listed a w:=ax W hi hs hf hr hl hQ hy hS h
theorem tkY (i:Nat) {oi:Oper} (v:Value) {fuel:Nat} {listed:Array Bool} {a:Act} {w:World} (hi:ops[i]? =some oi) (hy:YieldsIf P ops (fun _=>True) oi v a) (hS:S w)
 (h:fG P md ops Q S L fuel (listed.setIfInBounds i true) (a.put oi.dst v) w)
 (hs:Region.noSelect ops=true:=by kernel_rfl) (hf:Region.free md ops listed i=true:=by kernel_rfl) (hr:(Region.ready md ops listed).contains i=true:=by kernel_rfl) (hl:(!L.contains i)=true:=by kernel_rfl)
 (hQ:∀c a w,Q (.panic c) (a.put oi.dst v) w→Q (.panic c) a w:=by exact fun _ _ _ h=>h):fG P md ops Q S L (fuel+1) listed a w:=ah hi hs hf hr hl hQ hy hS h
theorem tkZ (i:Nat) {oi:Oper} (v:Value) {fuel:Nat} {listed:Array Bool} {a:Act} {w:World} (hi:ops[i]? =some oi) (hy:YieldsIf P ops (fun _=>True) oi v a)
 (h:fG P md ops Q S L fuel (listed.setIfInBounds i true) (a.put oi.dst v) w)
 (hs:Region.noSelect ops=true:=by kernel_rfl) (hf:Region.free md ops listed i=true:=by kernel_rfl) (hr:(Region.ready md ops listed).contains i=true:=by kernel_rfl) (hl:(!L.contains i&& !kW L listed)=true:=by kernel_rfl)
 (hQ:∀c a w,Q (.panic c) (a.put oi.dst v) w→Q (.panic c) a w:=by exact fun _ _ _ h=>h):fG P md ops Q S L (fuel+1) listed a w:=av hi hs hf hr hl hQ hy h
theorem aQ {i:Nat} {oi:Oper} {fuel:Nat} {listed:Array Bool} {a:Act} {w:World} (hi:ops[i]? =some oi) (hr:Region.ready md ops listed= [i]) (hl:kW L (listed.setIfInBounds i true)=false) (hw:Region.wanted oi (yielded ops a.tmps)=true)
 (h:∀K:Act→World→Prop,(∀a' w',fG P md ops Q S L fuel (listed.setIfInBounds i true) a' w'→K a' w')→oi.wp P a w K Q):fG P md ops Q S L (fuel+1) listed a w:=by
 refine ⟨fun h0=>(by rw[hr] at h0;cases h0),fun j hj=> ?_⟩;rw[hr] at hj;have hji:j=i:=by simpa using hj
 subst hji;unfold wpOp;simp only[hi,hw,if_true];exact .inl (h _ fun a' w' h'=>⟨fun hc=>(by rw[hl] at hc;cases hc),h'⟩)
theorem bu {i:Nat} {oi:Oper} {fuel:Nat} {listed:Array Bool} {a:Act} {w:World} (hi:ops[i]? =some oi) (hr:Region.ready md ops listed= [i]) (hw:Region.wanted oi (yielded ops a.tmps)=true)
 (h:∀K:Act→World→Prop,(∀a' w',S w'→fG P md ops Q S L fuel (listed.setIfInBounds i true) a' w'→K a' w')→oi.wp P a w K Q):fG P md ops Q S L (fuel+1) listed a w:=by
 refine ⟨fun h0=>(by rw[hr] at h0;cases h0),fun j hj=> ?_⟩;rw[hr] at hj;have hji:j=i:=by simpa using hj
 subst hji;unfold wpOp;simp only[hi,hw,if_true];exact .inl (h _ fun a' w' hs h'=>⟨fun _=>hs,h'⟩)
theorem aU {listed:Array Bool} {a:Act} {w:World} (hr:Region.ready md ops listed= []) (h:Q .normal a w):∀fuel,fG P md ops Q S L fuel listed a w
 |0=>⟨hr,h⟩
 |_+1=>⟨fun _=>h,by rw[hr];simp⟩
theorem bM {id:Nat} {a:Act} {w:World} (S:World→Prop) (L:List Nat) (hm:P.follows .mixedOrders=true)
 (h:fG P .any ops Q S L ops.size (Array.replicate ops.size false) a w.drew):(Code.region id ops true).wp P Q a w:=
 wp_region_any hm (rR _ _ _ _ h)
end
end
end Go.Proofs.YtiecgfahidpldaaGreat
