/- amsend: an error is raised and recovered. -/
import Derived.Test.YtbhiklnljiehiaaGreatM2ar
namespace Go.Proofs.YtbhiklnljiehiaaGreat
section
open Go.RowKit Go.Shelf
attribute [local go_sem] Oper.semAt_some
def zN (P:Program) (fn:Func) (c₀:Frame) (cs cs':List Frame) (R:Ending→FrameMode→World→Prop) (e:Exit) (a:Act) (w:World):Prop:=bodyPostS P fn c₀ cs R e a cs' w
theorem eZ (be:Nat) (w:World):
 CallsD Tryz.prog 76 #[.pointer (some ⟨be,0,none⟩)] .returning w fun e u' w'=>e= .returned (.tuple #[])∧u'= .returning∧w=w':=by
 have hnn:=run_eql_nil_nil (P:=Tryz.prog) w (t:=20) (by kernel_rfl);refine callsD_of_wpS Tryz.func76 rfl fun c₀ cs hu=> ?_
 apply wpS_seq;apply wpS_region;generalize hQ:Exit.thenS _ _=Q;simp[wpOpsS,go_sem,recoverD,hu,Tryz.ntmps76];subst hQ;simp only[Exit.thenS];refine wpS_of_wp ?_;rw[show (#[.pointer (some ⟨be,0,none⟩)]++((Array.replicate 17 undef).setIfInBounds 4 (.nilIface)).setIfInBounds 1 (.nilIface):Array Value)= #[.pointer (some ⟨be,0,none⟩),undef,.nilIface,undef,undef,.nilIface,undef,undef,undef,undef,undef,undef,undef,undef,undef,undef,undef,undef] from by kernel_rfl];change Code.wp _ _ (zN Tryz.prog Tryz.f76 c₀ cs (c₀::cs) _) _ w;go_wp2;cases c₀
 simp_all [zN,bodyPostS,results,Tryz.results76]
theorem zO (w:World):(Instr.typeAssert (.iface 191 (.agg #[])) 20 191 true).run Tryz.prog w= .ok (.tuple #[.agg #[],.bool true]) w:=by kernel_rfl
set_option maxHeartbeats 400000 in
set_option maxRecDepth 100000 in
theorem jK (be:Nat) (v4:Value) (w:World) (he:au w be 53 #[v4]):
 CallsD Tryz.prog 76 #[.pointer (some ⟨be,0,none⟩)] (.panicking [{v:= .iface 191 (.agg #[]),recovered:=false}]) w fun e u' w'=>e= .returned (.tuple #[])∧u'= .panicking [{v:= .iface 191 (.agg #[]),recovered:=true}]∧
  (w.alloc (.cells #[] 191)).setCell ⟨be,0,none⟩ (.int .i64 8)=w':=by
 have hnn:=run_eql_held_nil (P:=Tryz.prog) w 20 191 (.agg #[]) (by kernel_rfl);have hta:=zO w;refine callsD_of_wpS Tryz.func76 rfl fun c₀ cs hu=> ?_
 apply wpS_seq;apply wpS_region;generalize hQ:Exit.thenS _ _=Q;simp[wpOpsS,go_sem,recoverD,hu,Tryz.ntmps76];subst hQ;simp only[Exit.thenS];refine wpS_of_wp ?_;rw[show (#[.pointer (some ⟨be,0,none⟩)]++((Array.replicate 17 undef).setIfInBounds 4 (.iface 191 (.agg #[]))).setIfInBounds 1 (.iface 191 (.agg #[])):Array Value)= #[.pointer (some ⟨be,0,none⟩),undef,.iface 191 (.agg #[]),undef,undef,.iface 191 (.agg #[]),undef,undef,undef,undef,undef,undef,undef,undef,undef,undef,undef,undef] from by kernel_rfl];change Code.wp _ _ (zN Tryz.prog Tryz.f76 c₀ cs _ _) _ w;have c4:=(he.alloc (.cells #[] 191)).cell 0;have f4:=(he.alloc (.cells #[] 191)).frozen 0;simp at c4;go_wp2;exact ⟨rfl,_,rfl,.tuple #[],by simp[results,Tryz.results76],rfl,rfl,rfl⟩
end
section
open Go.RowKit Go.Shelf
attribute [local go_sem] Oper.semAt_some
section
variable {D F:Nat→Prop} {g:Nat} {c:Cf} {st:Sd} {vq vo:Value} {vs os:List Value} {w:World}
set_option maxRecDepth 100000 in
set_option maxHeartbeats 1000000 in
theorem MC (h:dV w D F g c st vq vs vo os) (ht:1≤c.timer) {K:Nat} (hB:jF st K) (hK:K≤90000) (hw:st.out.length≤512) (now:Int) (hn:now≤9223372036854775807):
 Calls Tryz.prog 51 #[.pointer (some ⟨g,0,none⟩),.int .i64 now] w fun e w'=>e= .returned (.int .i64 (fF c st now).2)∧kX w D F g c (fF c st now).1 w':=by
 have hA:=h.alloc (.cells #[.int .i64 0] 53);have hch:=fP hA ht;have kW:=ah hch;have HH:=ah h;cases hf:st.failed with
 |true=>
  rw[hf] at kW;have hfin:fF c st now=(st,8):=by unfold fF;rw[if_pos hf]
  rw[hfin];simp only[if_pos] at kW;clear h hA hch hf hfin
  go_enter_defers Tryz.func51,Tryz.ntmps51
  go_wp2_with fail;refine kW.out.mono ?_;rintro e1 w1 ⟨rfl,rfl⟩;go_wp2;refine ⟨.int .i64 8,by simp[results,Tryz.results51,go_sem],rfl,?_⟩;exact (HH.out.alloc _).o ((Kept.refl _ w).alloc _)
 |false=>
  rw[hf] at kW;have hfin:fF c st now=(fA c st now,if (fA c st now).failed=true then 8 else 0):=by unfold fF;rw[if_neg (by simp[hf])]
  rw[hfin];obtain ⟨r,hr⟩:∃r:Int,(if (fA c st now).failed=true then 8 else 0)=r:=⟨_,rfl⟩
  simp only[hr];have HR:=ah hr;clear hr;simp only[Bool.false_eq_true,if_false] at kW;have hgo:=vV hA now;have rH:=ah hgo;have HF:=ah hf;have hB1:=hB.clock hn;have HB1:=ah hB1;have xE:=au.new w 53 #[.int .i64 0];have IB:=ah xE;clear h hA hch hfin hgo hf hB1 xE
  go_enter_defers Tryz.func51,Tryz.ntmps51
  go_wp2_with fail;refine kW.out.mono ?_;rintro e1 w1 ⟨rfl,rfl⟩;go_wp2_with fail;refine rH.out.mono ?_;rintro e2 w2 ⟨rfl,hA2,hk2⟩;have hex:=uN hA2 HB1.out (by omega) hw HF.out;have pK:=IB.out.kept hk2 (HH.out.fresh (aN));have YQ:=ah hex;have qW:=ah pK;have hkk:Kept (fun k _=>D k) w w2:=((Kept.refl _ w).alloc _).trans hk2;have HKK:=ah hkk;clear hA2 hex pK hk2 hkk;go_wp2_with fail;refine YQ.out.mono ?_;rintro e3 w3 ⟨⟨hf3,rfl⟩|⟨hf3,rfl⟩,hO3⟩
  ·have nS:=qW.out.kept hO3.kept (HH.out.fresh (aN));have c3:=nS.cell 0;have f3:=nS.frozen 0;have c4:=(nS.av 0 (.int .i64 0)).cell 0;simp at c3 c4;have PN:=ah hO3;have YR:=ah c4;have JG:=ah hf3;clear nS hO3 c4 hf3;go_wp2;refine leaves_cons (f:=76) (args:= #[.pointer (some ⟨w.heap.size,0,none⟩)]) (by simp) (by simp[go_sem]) ?_;refine (eZ _ _).mono ?_;rintro e9 u9 w9 ⟨rfl,rfl,rfl⟩;have q:=YR.out;have hf4:(fA c st now).failed=false:=JG.out;refine ⟨.int .i64 0,by simp[results,Tryz.results51,go_sem,q],by rw[←HR.out,hf4];rfl,?_⟩;exact PN.out.put HKK.out (aN) qW.out.lt HH.out.lt HH.out.sub 0 _
  ·have nS:=qW.out.kept hO3.kept (HH.out.fresh (aN));have PN:=ah hO3;have JG:=ah hf3;have vX:=ah nS;clear nS hO3 hf3;go_wp2;refine leaves_cons (f:=76) (args:= #[.pointer (some ⟨w.heap.size,0,none⟩)]) (by simp) (by simp[go_sem]) ?_;refine (jK _ _ w3 vX.out).mono ?_;rintro e9 u9 w9 ⟨rfl,rfl,rfl⟩;have q:=((vX.out.alloc (.cells #[] 191)).av 0 (.int .i64 8)).cell 0;simp at q;have hf4:(fA c st now).failed=true:=JG.out;refine ⟨.int .i64 8,by simp[results,Tryz.results51,go_sem,q],by rw[←HR.out,hf4];rfl,?_⟩;exact (PN.out.alloc _).put HKK.out (aN) qW.out.lt HH.out.lt HH.out.sub 0 _
end
end
section
open Go.RowKit
section
variable {D F:Nat→Prop} {g:Nat} {c:Cf} {st:Sd} {vq vo:Value} {vs os:List Value} {w:World}
theorem dV.grow (h:dV w D F g c st vq vs vo os) {W2 w5:World} {x:Ou} {Ap A5:Option Addr} {cp c5 p base:Nat} (hb2:Below w.heap.size w W2) (hp:au W2 p 152 (DN x (.slice Ap x.ps.length cp) (.slice none 0 0))) (hpw:w.heap.size≤p)
 (hpo:bF W2 base (.slice Ap x.ps.length cp) x.ps) (hbase:w.heap.size≤base) (hpe:x.pend= []) (_hxp:∀q∈x.ps,1≤q.length)
 (hq:dR w5 0 138 (.slice A5 (st.out.length+1) c5) (st.out.length+1) (os++ [.pointer (some ⟨p,0,none⟩)])) (hg:(W2.alloc (.cells #[.pointer (some ⟨p,0,none⟩)] 138)).grownBy w5 (aT vo))
 (SE:∀k,aT (.slice A5 (st.out.length+1) c5)=some k→aT vo=some k∨(W2.alloc (.cells #[.pointer (some ⟨p,0,none⟩)] 138)).heap.size≤k):
 ∃D' F' vl,dV (w5.setCell ⟨g,12,none⟩ (.slice A5 (st.out.length+1) c5)) D' F' g c {st with out:=st.out++ [x]} vq vs (.slice A5 (st.out.length+1) c5) (os++ [.pointer (some ⟨p,0,none⟩)])∧bW w D D'∧bW w F F'∧
  Kept (fun k _=>D k) w (w5.setCell ⟨g,12,none⟩ (.slice A5 (st.out.length+1) c5))∧gU (w5.setCell ⟨g,12,none⟩ (.slice A5 (st.out.length+1) c5)) D' F' p x Ap cp vl none 0:=by
 have hz2:=hb2.size;have YM:(W2.alloc (.cells #[.pointer (some ⟨p,0,none⟩)] 138)).heap.size=W2.heap.size+1:=World.size_alloc _ _;have hgl:=h.blk.lt;have hgA:=(h.blk.below hb2 hgl).alloc (.cells #[.pointer (some ⟨p,0,none⟩)] 138);have hg5:=hgA.grown hg (fun e=>h.gne.2 e.symm);have Iz:=hg.size;have KG:(w5.setCell ⟨g,12,none⟩ (.slice A5 (st.out.length+1) c5)).heap.size=w5.heap.size:=by simp[World.setCell]
 have E5:∀k,k<W2.heap.size→k≠g→aT vo≠some k→(w5.setCell ⟨g,12,none⟩ (.slice A5 (st.out.length+1) c5)).heap[k]? =W2.heap[k]? :=fun k hk hkg hkq=>by
  rw[fD (show k≠(⟨g,12,none⟩:Addr).block from hkg),hg.block k (by omega) (fun e=>hkq e.symm),Below.heap_alloc _ _ k hk]
 have hh:∀k,k<w.heap.size→k≠g→aT vo≠some k→(w5.setCell ⟨g,12,none⟩ (.slice A5 (st.out.length+1) c5)).heap[k]? =w.heap[k]? :=fun k hk hkg hkq=>(E5 k (by omega) hkg hkq).trans (hb2.block k hk)
 have Pk:∀k,F k→k≠g→aT vq≠some k→aT vo≠some k→(w5.setCell ⟨g,12,none⟩ (.slice A5 (st.out.length+1) c5)).heap[k]? =w.heap[k]? :=fun k hf h1 _ h2=>hh k (h.lt k hf) h1 h2
 have hfr:∀k,w.heap.size≤k→k≠g∧aT vo≠some k:=fun k hk=>⟨by omega,fun e=>by have:=(h.rX.lt e).2;omega⟩
 have US:=hq.store hg5 (by decide) (i:=12) (.slice A5 (st.out.length+1) c5);have Gu:∀k,aT (.slice A5 (st.out.length+1) c5)=some k→D k∨W2.heap.size+1≤k:=fun k hk=>by
  rcases SE k hk with e|e
  ·exact .inl (h.od k e)
  ·exact .inr (by omega)
 have hpl:=hp.lt;have hnn:∀k,F k→¬D k→¬(D k∨k=p∨aT (.slice A5 (st.out.length+1) c5)=some k):=fun k hf hd e=>by
  have:=h.lt k hf;rcases e with e|e|e
  ·exact hd e
  ·omega
  ·rcases Gu k e with e|e
   ·exact hd e
   ·omega
 obtain ⟨vl,h1,h2⟩:=hpo;have hfp:(w5.setCell ⟨g,12,none⟩ (.slice A5 (st.out.length+1) c5)).heap[p]? =W2.heap[p]? :=E5 p hpl (hfr p hpw).1 (hfr p hpw).2;have hin:∀(k:Nat),base≤k→k<W2.heap.size→k≠p→(F k∨(w.heap.size≤k∧k<w5.heap.size))∧¬(D k∨k=p∨aT (.slice A5 (st.out.length+1) c5)=some k):=fun k hk1 hk2 hk3=>by
  refine ⟨.inr ⟨by omega,by omega⟩,?_⟩;rintro (e|e|e)
  ·have:=h.lt k (h.sub k e);omega
  ·exact hk3 e
  ·rcases Gu k e with e|e
   ·have:=h.lt k (h.sub k e);omega
   ·omega
 have hOx:gU (w5.setCell ⟨g,12,none⟩ (.slice A5 (st.out.length+1) c5)) (fun k=>D k∨k=p∨aT (.slice A5 (st.out.length+1) c5)=some k) (fun k=>F k∨(w.heap.size≤k∧k<w5.heap.size)) p x Ap cp vl none 0:=by
  refine ⟨?_,.inr (.inl rfl),.inr ⟨hpw,by omega⟩,⟨(dH h1).stay (fun ad e=> ?_),rfl,fun i q hi=> ?_⟩,fun ad e=> ?_,fun i v hv ad e=> ?_,by rw[hpe];exact dG.nil _,fun ad e=>by cases e⟩
  ·have:au W2 p 152 (DN x (.slice Ap x.ps.length cp) (.slice none x.pend.length 0)):=by rw[hpe];exact hp
   exact hfp.trans this
  ·subst e;have hl:=h1.lt ad.block rfl;exact E5 _ hl.2 (hfr _ (by omega)).1 (hfr _ (by omega)).2
  ·obtain ⟨A,cq,e,ho⟩:=h2 i q hi;refine ⟨A,cq,e,(dH ho).stay fun ad ea=> ?_⟩;subst ea;have hl:=ho.lt ad.block rfl;exact E5 _ hl.2 (hfr _ (by omega)).1 (hfr _ (by omega)).2
  ·subst e;have hl:=h1.lt ad.block rfl;exact hin _ hl.1 hl.2 (fun e2=>aJ h1 hp (by decide) (by rw[←e2];rfl))
  ·have hil:i<x.ps.length:=by
    have:=(List.getElem?_eq_some_iff.1 hv).1;rw[(dH h1).len] at this;exact this
   obtain ⟨q,hqi⟩:∃q,x.ps[i]? =some q:=⟨_,List.getElem?_eq_getElem hil⟩
   obtain ⟨A,cq,e2,ho⟩:=h2 i q hqi;rw[e2] at hv;cases hv;have e3:A=some ad:=e;subst e3;have hl:=ho.lt ad.block rfl;exact hin _ hl.1 hl.2 (fun e2=>aJ ho hp (by decide) (by rw[←e2];rfl))
 refine ⟨fun k=>D k∨k=p∨aT (.slice A5 (st.out.length+1) c5)=some k,fun k=>F k∨(w.heap.size≤k∧k<w5.heap.size),vl,⟨hg5.av 12 (.slice A5 (st.out.length+1) c5),.inl h.gd,?_,?_,?_,fun k hk=> .inl (h.qd k hk),?_,?_,fun k hk=> .inr (.inr hk),?_,?_⟩,?_,?_,?_,hOx⟩
 ·rintro k (hk|rfl|hk)
  ·exact .inl (h.sub k hk)
  ·exact .inr ⟨hpw,by omega⟩
  ·rcases Gu k hk with e|e
   ·exact .inl (h.sub k e)
   ·exact .inr ⟨by omega,by have:=(US.lt hk).2;omega⟩
 ·rintro k (hk|⟨hk1,hk2⟩)
  ·have:=h.lt k hk;omega
  ·omega
 ·exact h.qr.keep fun k hk=>hh k (h.qr.lt hk).2 (fun e=>h.gne.1 (by rw[←e];exact hk)) (h.qne k hk)
 ·intro i q hi;obtain ⟨A,cc,k1,k2,k3⟩:=h.qes Pk i q hi;exact ⟨A,cc,k1,k2,k3.sets (fun k hk=> .inl hk) hnn⟩
 ·have hl:(st.out++ [x]).length=st.out.length+1:=by simp
  show dR _ 0 _ _ (st.out++ [x]).length _
  rw[hl];exact US
 ·intro i y hi;have hi':(st.out++ [x])[i]? =some y:=hi;rcases Nat.lt_or_ge i st.out.length with hlt|hge
  ·rw[List.getElem?_append_left hlt] at hi';obtain ⟨p',Ap',cp',vp',KO,Mj,k1,k2⟩:=h.oes Pk i y hi';exact ⟨p',Ap',cp',vp',KO,Mj,by rw[List.getElem?_append_left (by rw[h.rX.1];exact hlt)];exact k1,k2.sets (fun k hk=> .inl hk) (fun k hk=> .inl hk) hnn⟩
  ·have hi0:i=st.out.length:=by
    have:=(List.getElem?_eq_some_iff.1 hi').1;simp at this;omega
   subst hi0;simp at hi';subst hi';exact ⟨p,Ap,cp,vl,none,0,by rw[←h.rX.1];simp,hOx⟩
 ·intro i j v hi hj;have hol:=h.rX.1;have hold:∀(a:Nat) (u:Value),a<st.out.length→os[a]? =some u→u≠ .pointer (some ⟨p,0,none⟩):=fun a u ha hu e=>by
   obtain ⟨x',hx'⟩:∃x',st.out[a]? =some x':=⟨_,List.getElem?_eq_getElem ha⟩
   obtain ⟨p',_,_,_,_,_,k1,k2⟩:=h.oe a x' hx';rw[hu] at k1;cases k1;cases e;have:=h.lt p k2.f;omega
  have key:∀a u,(os++ [Value.pointer (some ⟨p,0,none⟩)])[a]? =some u→(a<st.out.length∧os[a]? =some u)∨(a=st.out.length∧u= .pointer (some ⟨p,0,none⟩)):=fun a u hu=>by
   rcases Nat.lt_or_ge a st.out.length with hlt|hge
   ·rw[List.getElem?_append_left (by omega)] at hu;exact .inl ⟨hlt,hu⟩
   ·have ha:a=st.out.length:=by
     have:=(List.getElem?_eq_some_iff.1 hu).1;simp at this;omega
    subst ha;rw[List.getElem?_append_right (by omega),hol] at hu;simp at hu;exact .inr ⟨rfl,hu.symm⟩
  rcases key i v hi with ⟨a1,a2⟩|⟨a1,a2⟩<;>rcases key j v hj with ⟨b1,b2⟩|⟨b1,b2⟩
  ·exact h.inj i j v a2 b2
  ·exact absurd b2 (hold i v a1 a2)
  ·exact absurd a2 (hold j v b1 b2)
  ·omega
 ·rintro k (hk|rfl|hk)
  ·exact .inl hk
  ·exact .inr hpw
  ·rcases Gu k hk with e|e
   ·exact .inl e
   ·exact .inr (by omega)
 ·rintro k (hk|⟨hk1,hk2⟩)
  ·exact .inl hk
  ·exact .inr hk1
 ·have hk1:Kept (fun k _=>D k) w W2:=(Kept.of_below hb2).fE fun k o ho hm=>by have:=lt_of_heap ho;omega
  exact ((hk1.alloc _).grown hg (fun k hk o ho=>h.od k hk)).setCell (p:=⟨g,12,none⟩) (fun _ _=>h.gd) _
end
end
end Go.Proofs.YtbhiklnljiehiaaGreat
