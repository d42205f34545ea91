/- Rows of a report's entries: Clone; slices.All; status.Ranges. status.Ranges' iterator. merged: the last range and the next one are joined. merged: a range is joined to the last one, or appended. State. -/
import Derived.Test.YtiecgfahidpldaaGreatM3ae
import Derived.Test.YtiecgfahidpldaaGreatM3ai
import Derived.Test.YtiecgfahidpldaaGreatM3aj
import Derived.Test.YtiecgfahidpldaaGreatM3al
import Derived.BigRegion
import Derived.Laws.ResultCell
import Derived.Deep.RegionHeld3
import Derived.Deep.DeepCutAuto
namespace Go.Proofs.YtiecgfahidpldaaGreat
section
open Go.RowKit Go.Shelf
attribute [local go_sem] Oper.semAt_some
def qg (l:List Nk):List Value:=l.flatMap (fun r=> [.int .i64 r.sn,.bool r.part,.int .i64 r.fr,.int .i64 r.lt])
theorem za (l:List Nk):(qg l).length=l.length*4:=by
 induction l with
 |nil=>rfl
 |cons r t ih=>
  simp only[qg,List.flatMap_cons,List.length_append,List.length_cons,List.length_nil] at ih ⊢;omega
theorem FU (r:Nk) (t:List Nk):qg (r::t)= .int .i64 r.sn:: .bool r.part:: .int .i64 r.fr:: .int .i64 r.lt::qg t:=by simp[qg]
theorem DZ:∀(l:List Nk) (j:Nat) (r:Nk),l[j]? =some r→(qg l)[j*4]? =some (.int .i64 r.sn)∧(qg l)[j*4+1]? =some (.bool r.part)∧(qg l)[j*4+2]? =some (.int .i64 r.fr)∧(qg l)[j*4+3]? =some (.int .i64 r.lt)
 | [],j,r,h=>by simp at h
 |x::t,0,r,h=>by
  simp at h;subst h;rw[FU];exact ⟨rfl,rfl,rfl,rfl⟩
 |x::t,j+1,r,h=>by
  have ih:=DZ t j r (by simpa using h);rw[FU];rw[show (j+1)*4=j*4+1+1+1+1 by omega];exact ih
theorem Ro (l:List Nk):∀u∈qg l,u.oneCell'=true:=by
 intro u hu;simp only[qg,List.mem_flatMap,List.mem_cons,List.not_mem_nil,or_false] at hu;obtain ⟨r,_,rfl|rfl|rfl|rfl⟩:=hu<;>rfl
theorem bP.cells {w:World} {ad:Addr} {n c:Nat} {l:List Nk} (h:bP w (some ad) n c l):∀j u,(qg l)[j]? =some u→w.cell? (ad.add j)=some u:=by
 intro j u hu;have hj:=(List.getElem?_eq_some_iff.1 hu).1;rw[za] at hj;have hn:=h.len;obtain ⟨wM,e,hb,hc⟩:=h.at_ (by omega);cases e;obtain ⟨r,hr⟩:∃r,l[j/4]? =some r:=⟨_,List.getElem?_eq_getElem (by omega)⟩
 obtain ⟨g1,g2,g3,g4⟩:=DZ l _ r hr;obtain ⟨k1,k2,k3,k4⟩:=hc _ r hr;have hm:j%4=0∨j%4=1∨j%4=2∨j%4=3:=by omega
 rcases hm with hm|hm|hm|hm
 ·have e2:j/4*4=j:=by omega
  rw[e2] at g1 k1;rw[g1] at hu;cases hu;exact k1
 ·have e2:j/4*4+1=j:=by omega
  rw[e2] at g2;rw[g2] at hu;cases hu;rw[←e2,←add_add];exact k2
 ·have e2:j/4*4+2=j:=by omega
  rw[e2] at g3;rw[g3] at hu;cases hu;rw[←e2,←add_add];exact k3
 ·have e2:j/4*4+3=j:=by omega
  rw[e2] at g4;rw[g4] at hu;cases hu;rw[←e2,←add_add];exact k4
theorem bP.cO {w:World} {l:List Nk} {base:Nat} {v:Value} (h:w.ownsRow base 116 4 v l.length (qg l)):
 ∃A c,v= .slice A l.length c∧bP w A l.length c l∧(∀ad,A=some ad→base≤ad.block∧ad.block<w.heap.size):=by
 rcases h.2 with ⟨rfl,hn⟩|⟨g,cap,cur,rfl,hb,hg,hnc,hcm,hcs,ht⟩
 ·have:=List.eq_nil_of_length_eq_zero hn;subst this;exact ⟨none,0,rfl,⟨rfl,Nat.le_refl _,by omega,fun hn=>by simp at hn⟩,fun ad e=>by cases e⟩
 ·refine ⟨_,_,rfl,⟨rfl,hnc,by unfold maxLen at hcm;omega,fun _=>⟨_,rfl,lt_of_heap hg,fun j r hr=> ?_⟩⟩,fun ad e=>by cases e;exact ⟨hb,lt_of_heap hg⟩⟩;have hc:=fun j u (hu:(qg l)[j]? =some u)=>h.cells (g:=g) rfl j u hu
  obtain ⟨g1,g2,g3,g4⟩:=DZ l j r hr;refine ⟨hc _ _ g1,?_,?_,?_⟩
  ·have:=hc _ _ g2;rw[←add_add] at this;exact this
  ·have:=hc _ _ g3;rw[←add_add] at this;exact this
  ·have:=hc _ _ g4;rw[←add_add] at this;exact this
theorem Rp:(Tryz.prog.info? 116).map (fun i=>(i.zero,i.size,i.bytes))=some (some (.agg #[.int .i64 0,.bool false,.int .i64 0,.int .i64 0]),4,32):=by kernel_rfl
theorem ug:∃i,Tryz.prog.info? 116=some i∧i.zero=some (.agg #[.int .i64 0,.bool false,.int .i64 0,.int .i64 0])∧i.size=4∧i.bytes=32:=by
 have h:=Rp;cases hi:Tryz.prog.info? 116 with
 |none=>rw[hi] at h;cases h
 |some i=>
  rw[hi] at h;simp only[Option.map_some,Option.some.injEq,Prod.mk.injEq] at h;exact ⟨i,rfl,h.1,h.2.1,h.2.2⟩
theorem zb:Tryz.prog.underlying 40=some (.slice 116):=by kernel_rfl
section
variable {P:Program} (w:World)
theorem Bh (base:Nat) (t ty e:TypeId) (i:TypeInfo) (z:Value) (bytes:Nat) (ht:P.underlying t=some (.slice e)) (hi:P.info? e=some i) (hz:i.zero=some z)
 (hsize:i.size=4) (hby:i.bytes=bytes) (hzs:z.cells.size=4)
 (v:Value) (n:Nat) (xs:List Value) (hown:w.ownsRow base e 4 v n xs)
 (A:Option Addr) (m c:Nat) (l:List Nk) (hr:bP w A m c l)
 (h63:n+m≤maxLen) (hbytes:(n+m)*bytes≤140737488355328) (hbase:base≤w.heap.size):
 ∃v' w',(Builtin.append_ #[t,t] ty #[v,.slice A m c]).run P w= .ok v' w'∧w'.ownsRow base e 4 v' (n+m) (xs++qg l)∧w.grownBy w' v.ownBlock:=by
 rcases A with _|ad
 ·have hm:m=0:=by
   rcases Nat.eq_zero_or_pos m with h0|h0
   ·exact h0
   ·obtain ⟨ad,h,_⟩:=hr.at_ h0;cases h
  subst hm;have hn:l= []:=List.eq_nil_of_length_eq_zero hr.len;subst hn;exact ⟨v,w,jA w base t ty e i 4 ht hi v n xs hown c,by simpa[qg] using hown,World.grownBy.refl w _⟩
 ·obtain ⟨v',w',hrun,h2,h3,_,h5⟩:=run_append_own_at (P:=P) w base t ty e i z 4 bytes ht hi hz hsize hby hzs (by omega) v n xs hown ad m c (qg l) (by rw[za,hr.len]) hr.cells (Ro l) h63 hbytes hbase;exact ⟨v',w',hrun,h2,h3⟩
theorem uh {o:Oper} {a:Act} {K:Act→World→Prop} {Q:Exit→Act→World→Prop} (s x:Operand) (t:TypeId)
 (ho:o.op= .call {callee:= .builtin .append,args:= #[s,x],argTypes:= #[t,t]})
 (base:Nat) (e:TypeId) (i:TypeInfo) (z:Value) (bytes:Nat) (ht:P.underlying t=some (.slice e)) (hi:P.info? e=some i) (hz:i.zero=some z)
 (hsize:i.size=4) (hby:i.bytes=bytes) (hzs:z.cells.size=4)
 (v:Value) (n:Nat) (xs:List Value) (hs:a.eval s=v) (hown:w.ownsRow base e 4 v n xs)
 (A:Option Addr) (m c:Nat) (l:List Nk) (hx:a.eval x= .slice A m c) (hr:bP w A m c l)
 (h63:n+m≤maxLen) (hbytes:(n+m)*bytes≤140737488355328) (hbase:base≤w.heap.size)
 (h:∀v' w',w'.ownsRow base e 4 v' (n+m) (xs++qg l)→w.grownBy w' v.ownBlock→K (a.put o.dst v') w'):o.wp P a w K Q:=by
 obtain ⟨v',w',hrun,h2,h3⟩:=Bh (P:=P) w base t o.type e i z bytes ht hi hz hsize hby hzs v n xs hown A m c l hr h63 hbytes hbase;unfold Oper.wp execOp;simp only[ho,resolve,invoke,builtin,Sem.run_bind,Sem.run_pure,Result.andThen_ok,List.map_toArray,List.map_cons,List.map_nil,hs,hx,hrun];exact h v' w' h2 h3
theorem jZ {ops:Array Oper} {rest:List Oper} {o:Oper} {a:Act} {Q:Exit→Act→World→Prop} (hgd:o.guard=none) (s x:Operand) (t:TypeId)
 (ho:o.op= .call {callee:= .builtin .append,args:= #[s,x],argTypes:= #[t,t]})
 (base:Nat) (e:TypeId) (i:TypeInfo) (z:Value) (bytes:Nat) (ht:P.underlying t=some (.slice e)) (hi:P.info? e=some i) (hz:i.zero=some z)
 (hsize:i.size=4) (hby:i.bytes=bytes) (hzs:z.cells.size=4)
 (v:Value) (n:Nat) (xs:List Value) (hs:a.eval s=v) (hown:w.ownsRow base e 4 v n xs)
 (A:Option Addr) (m c:Nat) (l:List Nk) (hx:a.eval x= .slice A m c) (hr:bP w A m c l)
 (h63:n+m≤maxLen) (hbytes:(n+m)*bytes≤140737488355328) (hbase:base≤w.heap.size)
 (h:∀v' w',w'.ownsRow base e 4 v' (n+m) (xs++qg l)→w.grownBy w' v.ownBlock→wpList P ops Q rest (a.put o.dst v') w'):wpList P ops Q (o::rest) a w:=
 wpList_plain hgd fun _ hK=>uh w s x t ho base e i z bytes ht hi hz hsize hby hzs v n xs hs hown A m c l hx hr h63 hbytes hbase fun v' w' h2 h3=>hK _ _ (h v' w' h2 h3)
end
set_option maxRecDepth 3000 in
set_option maxHeartbeats 400000 in
theorem wD (A:Option Addr) (n c:Nat) (l:List Nk) (w:World) (h:bP w A n c l) (hsm:n≤1000000):
 Calls Tryz.prog 87 #[.slice A n c] w fun e w'=>∃A' c',e= .returned (.slice A' n c')∧bP w' A' n c' l∧(∀ad,A'=some ad→w.heap.size≤ad.block∧ad.block<w'.heap.size)∧Below w.heap.size w w':=by
 have hnil:=fun (W:World)=>Lib.run_eql_slice_nil (P:=Tryz.prog) W 40 116 A n c 0 0 zb
 obtain ⟨i0,hi,hz0,hz1,hz2⟩:=ug;have hl:=h.len;subst hl;have hs1:=h.alloc (.cells #[] 116);rcases A with _|ad
 ·have hl:l= []:=by
   rcases Nat.eq_zero_or_pos l.length with h0|h0
   ·exact List.eq_nil_of_length_eq_zero h0
   ·obtain ⟨_,e,_⟩:=h.at_ h0;cases e
  subst hl;simp only[List.length_nil] at hnil ⊢;clear hs1 h;go_enter Tryz.func87,Tryz.ntmps87;go_wp2;go_ret;exact ⟨none,0,rfl,⟨rfl,Nat.le_refl _,by omega,fun hn=>by simp at hn⟩,fun ad e=>(by cases e),Below.refl _ _⟩
 ·go_enter Tryz.func87,Tryz.ntmps87;go_wp2_with (at_builtin;refine jZ _ rfl _ _ 40 rfl w.heap.size 116 i0 (.agg #[.int .i64 0,.bool false,.int .i64 0,.int .i64 0]) 32 zb hi hz0 hz1 hz2 rfl (.slice (some ⟨w.heap.size,0,none⟩) 0 0) 0 [] rfl ?c0 (some ad) l.length c l rfl hs1 ?c3 ?c4 ?c5 ?_)
  case c0=>exact World.ownsRow_lit w #[] 0 (Nat.le_refl _) (by unfold maxLen;omega) rfl
  case c3=>unfold maxLen;omega
  case c4=>omega
  case c5=>simp
  intro v' w1 hown' hgrow;go_wp2;go_ret;have hb:Below w.heap.size w w1:=((Below.refl _ w).alloc (Nat.le_refl _) _).grown hgrow (by simp) (by simp[Value.ownBlock]);obtain ⟨A',c',rfl,h1,h2⟩:=bP.cO (l:=l) (by simpa using hown');exact ⟨A',c',rfl,h1,h2,hb⟩
set_option maxRecDepth 3000 in
set_option maxHeartbeats 400000 in
theorem Od (F:Fence) (n:Nat) (hF:F.fn 149) (hro:F.round=none) (A:Option Addr) (N c:Nat) (w:World):
 CallsIn F n Tryz.prog 149 #[.slice A N c] w fun e w'=>e= .returned (.func (.func 173) #[] #[.pointer (some ⟨w.heap.size,0,none⟩)])∧w'=w.alloc (.cells #[.slice A N c] 40):=by
 refine callsIn_of_wp Tryz.func149 rfl hF ?_ hro;simp only[Tryz.ntmps149,List.size_toArray,List.length_cons,List.length_nil,Nat.reduceAdd,Nat.reduceSub,Array.replicate_succ,Array.replicate_zero,List.push_toArray,List.append_toArray,List.nil_append,List.cons_append]
 gi_wp2
 go_ret;exact ⟨rfl,rfl⟩
set_option maxRecDepth 3000 in
set_option maxHeartbeats 400000 in
theorem FV (aI sn:Int) (A:Option Addr) (n c:Nat) (l:List Nk) (w:World) (h:bP w A n c l) (hsm:n≤1000000):
 Calls Tryz.prog 108 #[.agg #[.int .i64 aI,.slice A n c],.int .i64 sn] w fun e w'=>∃g b A' c',e= .returned (.func (.func 148) #[] #[.pointer (some ⟨g,0,none⟩),.pointer (some ⟨b,0,none⟩)])∧
  aA w' g 40 #[.slice A' n c']∧aA w' b 3 #[.int .i64 sn]∧bP w' A' n c' l∧(∀ad,A'=some ad→w.heap.size≤ad.block∧ad.block<w'.heap.size)∧w.heap.size≤g∧w.heap.size≤b∧Below w.heap.size w w':=by
 have b0:=aA.new w 42 #[.int .i64 aI,.slice A n c];have b1:=aA.new (w.alloc (.cells #[.int .i64 aI,.slice A n c] 42)) 3 #[.int .i64 sn];have XA:=b0.alloc (.cells #[.int .i64 sn] 3);have hz:(w.alloc (.cells #[.int .i64 aI,.slice A n c] 42)).heap.size=w.heap.size+1:=World.size_alloc _ _;rw[hz] at b1;have z0:=XA.cell 0;have z1:=XA.cell 1;simp at z0 z1;have hN:=(h.alloc (.cells #[.int .i64 aI,.slice A n c] 42)).alloc (.cells #[.int .i64 sn] 3);have hB:Below w.heap.size w ((w.alloc (.cells #[.int .i64 aI,.slice A n c] 42)).alloc (.cells #[.int .i64 sn] 3)):=((Below.refl _ w).alloc (Nat.le_refl _) _).alloc (by simp) _;have hcl:=wD A n c l _ hN hsm;have HB:=Lib.hid hB;have B1:=Lib.hid b1;have pJ:=Lib.hid hcl;clear b0 b1 XA hN hB hcl h;go_enter Tryz.func108,Tryz.ntmps108;go_wp2_with fail;refine pJ.out.mono ?_;rintro e w1 ⟨A',c',rfl,hN1,hf1,hb1⟩;go_wp2_with fail;go_ret;have hs1:=HB.out.size;refine ⟨w1.heap.size,w.heap.size+1,A',c',rfl,aA.new w1 _ _,((B1.out.below hb1 B1.out.lt).alloc _),hN1.alloc _,fun ad e=> ?_,by have:=hb1.size;omega,by omega,(HB.out.trans (hb1.mono hs1)).alloc (by have:=hb1.size;omega) _⟩;have:=hf1 ad e;simp;omega
end
section
open Go.RowKit Go.Shelf
attribute [local go_sem] Oper.semAt_some
def Lh (x:Nk):Int × Int:=if x.part=true then (x.fr,x.lt) else (0,32767)
def eF (sn:Int) (x:Nk):Bool:=decide (x.sn=sn)
def uj (l:List Nk) (k:Nat):Array Value:=match l[k]? with
 |some x=> #[.int .i64 (Lh x).1,.int .i64 (Lh x).2]
 |none=> #[undef,undef]
def jQ (p:Nk→Bool) (l:List Nk) (k:Nat):Nat:=((l.take k).filter p).length
theorem rU (p:Nk→Bool):∀(l:List Nk) (k:Nat) (x:Nk),l[k]? =some x→jQ p l (k+1)=jQ p l k+(if p x=true then 1 else 0)
 | [],k,x,h=>by simp at h
 |y::t,0,x,h=>by
  simp at h;subst h;unfold jQ;cases hp:p y<;>simp[hp]
 |y::t,k+1,x,h=>by
  have ih:=rU p t k x (by simpa using h);unfold jQ at*;simp only[List.take_succ_cons,List.filter_cons];split
  ·simp only[List.length_cons];omega
  ·exact ih
theorem Cu (p:Nk→Bool):∀(l:List Nk) (k:Nat) (x:Nk),l[k]? =some x→p x=true→(l.filter p)[jQ p l k]? =some x
 | [],k,x,h,_=>by simp at h
 |y::t,0,x,h,hp=>by
  simp at h;subst h;unfold jQ;simp[hp]
 |y::t,k+1,x,h,hp=>by
  have ih:=Cu p t k x (by simpa using h) hp;unfold jQ at*;simp only[List.take_succ_cons,List.filter_cons];split
  ·simpa using ih
  ·exact ih
theorem Ji (p:Nk→Bool) (l:List Nk):jQ p l 0=0:=by simp[jQ]
theorem Li (p:Nk→Bool) (l:List Nk):jQ p l l.length=(l.filter p).length:=by simp[jQ]
theorem aA.putObj {w:World} {b k:Nat} {t:TypeId} {cs:Array Value} (h:aA w b t cs) (hne:b≠k) (o:Obj):aA (w.putObj k o) b t cs:=(World.putObj_heap_other (by omega)).trans h
theorem Below.putObj {B k:Nat} {w:World} (hk:B≤k) (o:Obj):Below B w (w.putObj k o):=by
 have h:=grownBy_putObj' w k o;exact ⟨h.os,h.tape,h.output,h.size,fun j hj=>World.putObj_heap_other (by omega)⟩
theorem KeepsFrom.VB {B:Nat} {M:Nat→Obj→Prop} {w w':World} (h:Kept M w w') (hM:∀k o,B≤k→o.isCells=false→¬M k o):KeepsFrom B w w':=⟨h.size,fun k o hk ho hc=>h.same k o ho (hM k o hk hc)⟩
theorem KeepsFrom.tr {B:Nat} {a b c:World} (h:KeepsFrom B a b) (k:KeepsFrom B b c):KeepsFrom B a c:=⟨Nat.le_trans h.size k.size,fun i o hi ho hc=>k.same i o hi (h.same i o hi ho hc) hc⟩
theorem KeepsFrom.D4 {B b i:Nat} {w:World} {t:TypeId} {cs:Array Value} (h:aA w b t cs) (u:Value):KeepsFrom B w (w.setCell ⟨b,i,none⟩ u):=by
 refine ⟨by simp[World.setCell],fun k o _ ho hc=> ?_⟩;rw[Below.heap_setCell w ⟨b,i,none⟩ u k ?_]
 ·exact ho
 ·intro e;have e2:k=b:=e;subst e2;unfold aA at h;rw[h] at ho;cases ho;cases hc
theorem KeepsFrom.fq {B:Nat} {w w':World} (h:Below w.heap.size w w'):KeepsFrom B w w':=⟨h.size,fun k _o _ ho _=>(h.block k (Array.getElem?_eq_some_iff.1 ho).1).trans ho⟩
theorem wU {w:World} {r:Nat} (hr:r<w.heap.size) (c o:Obj):Below w.heap.size (w.putObj r o) ((w.alloc c).putObj r o):=by
 have h1:=grownBy_putObj' w r o;have h2:=grownBy_putObj' (w.alloc c) r o;have h3:=(Below.refl w.heap.size w).alloc (Nat.le_refl _) c;have hz:(w.putObj r o).heap.size=w.heap.size:=by simp[World.putObj]
 refine ⟨(h2.os.trans h3.os).trans h1.os.symm,(h2.tape.trans h3.tape).trans h1.tape.symm,(h2.output.trans h3.output).trans h1.output.symm,?_,fun j hj=> ?_⟩
 ·have:=h2.size;have:=h3.size;omega
 ·by_cases e:j=r
  ·subst e;rw[World.putObj_heap_same (by have:=h3.size;omega),World.putObj_heap_same hj]
  ·rw[World.putObj_heap_other (by omega),World.putObj_heap_other (by omega)];exact h3.block j hj
set_option maxRecDepth 100000 in
set_option maxHeartbeats 4000000 in
theorem Jj (n:Nat) (g b:Nat) (A:Option Addr) (N c:Nat) (l:List Nk) (sn:Int) (M:Nat→Obj→Prop) (w:World)
 (hg:aA w g 40 #[.slice A N c]) (hb:aA w b 3 #[.int .i64 sn]) (hv:bP w A N c l) (hlo:∀ad,A=some ad→ad.block<w.heap.size)
 (_hMg:∀o,¬M g o) (hMb:∀o,¬M b o) (MZ:∀ad,A=some ad→∀o,¬M ad.block o) (hMo:∀k o,w.heap.size+2≤k→M k o→∃cs r,o= .cells cs 99 r):
 Kl n Tryz.prog 148 #[.pointer (some ⟨g,0,none⟩),.pointer (some ⟨b,0,none⟩)] (uj (l.filter (eF sn))) (l.filter (eF sn)).length (Kept M) w:=fun p J W hW hW2 hJ hY h0=>by
 have hg':=(hg.below hW hg.lt).alloc (.cells #[.func (.yield p) #[] #[]] 155);have hb':=(hb.below hW hb.lt).alloc (.cells #[.func (.yield p) #[] #[]] 155);have hy':=aA.new W 155 #[.func (.yield p) #[] #[]];have hv':=(hv.below hW).alloc (.cells #[.func (.yield p) #[] #[]] 155);have hc0:=hg'.cell 0;simp at hc0;have HW1:Below W.heap.size W (W.alloc (.cells #[.func (.yield p) #[] #[]] 155)):=(Below.refl _ W).alloc (Nat.le_refl _) _;have hsz:(W.alloc (.cells #[.func (.yield p) #[] #[]] 155)).heap.size=W.heap.size+1:=World.size_alloc _ _;have Yc:=hg.lt;have hblt:=hb.lt;have hlen:=Lib.hid hv.len;have lT:=Od Fence.wide (n-1) trivial rfl A N c;have xB:=Lib.hid lT;have HY:=Lib.hid hY;have HG:=Lib.hid hg';have HB:=Lib.hid hb';have HYB:=Lib.hid hy';have HV:=Lib.hid hv';have HS:=Lib.hid hsz;clear lT hY hg' hb' hy' hv' hsz;have h0':=hJ.fresh _ _ _ h0 HW1;generalize hWg:W.alloc (.cells #[.func (.yield p) #[] #[]] 155)=W1 at*;refine callsIn_of_wp_marks Tryz.func148 rfl trivial ?_ rfl;simp only[Tryz.ntmps148,List.size_toArray,List.length_cons,List.length_nil,Nat.reduceAdd,Nat.reduceSub,Array.replicate_succ,Array.replicate_zero,List.push_toArray,List.append_toArray,List.nil_append,List.cons_append]
 gi_wp2
 refine ji ?_
 gi_wp2
 refine wpIn_label ?_
 gi_wp2_with fail
 refine ⟨trivial,(fun hh=>(by cases hh)),(xB.out W1).mono ?_⟩;rintro e w' ⟨rfl,rfl⟩;have HX:=Lib.hid (aA.new W1 40 #[.slice A N c]);have ru:=Lib.hid (HG.out.alloc (.cells #[.slice A N c] 40));have HB2:=Lib.hid (HB.out.alloc (.cells #[.slice A N c] 40));have HY2:=Lib.hid (HYB.out.alloc (.cells #[.slice A N c] 40));have Oe:=Lib.hid (HV.out.alloc (.cells #[.slice A N c] 40));have h02:=hJ.fresh _ _ _ h0' ((Below.refl _ W1).alloc (Nat.le_refl _) (.cells #[.slice A N c] 40));have HS2:=Lib.hid (World.size_alloc W1 (.cells #[.slice A N c] 40));generalize W1.alloc (.cells #[.slice A N c] 40)=W2 at*;clear HG HB HYB HV h0' hc0 HW1 hWg
 gi_wp2_with fail
 have hs2:=HS2.out;have hs1:=HS.out;have hWs:=hW.size;refine nD (gf:=173) (lb:= #[.pointer (some ⟨W1.heap.size,0,none⟩)]) rfl (enters_of Tryz.func173 (by kernel_rfl) rfl)
  (Rn (n-1) W1.heap.size A N c l (fun k o=>M k o∨k=W2.heap.size+1) W2 HX.out Oe.out (fun ad e=>by have:=hlo ad e;omega) ?a1 ?a2)
  Kept.trans ?a3 (Below.refl _ _) (fun _=>rfl)
  (fun k Wk=>J (jQ (eF sn) l k) Wk∧Kept (fun k o=>M k o∨k=W2.heap.size+1) W2 Wk) ?a4 ?a5 ?a6 ?a7
 case a1=>
  rintro (h|h)
  ·obtain ⟨cs,r,e⟩:=hMo _ _ (by omega) h;injection e with _ e2
   exact absurd e2 (by decide)
  ·omega
 case a2=>
  rintro ad e o (h|h)
  ·exact MZ ad e o h
  ·have:=hlo ad e;omega
 case a3=>
  intro Wk o o' ho hc;exact (Kept.refl _ Wk).grown (grownBy_putObj' Wk _ o') (fun j e _ _=>by cases e;exact .inr rfl)
 case a4=>
  refine ⟨fun k Wa Wb row hs hgr hr=>⟨(hJ.mono (by omega)).own _ Wa Wb row hs.1 hgr hr,hs.2.grown hgr (fun j e o ho=> ?_)⟩,fun k Wa Wb hs hbw=>⟨hJ.fresh _ _ _ hs.1 hbw,hs.2.trans (Kept.fq hbw)⟩⟩;have h1:=(hr j e).1;have h2:=(Array.getElem?_eq_some_iff.1 ho).1;omega
 case a5=>exact ⟨by rw[Ji];exact h02,Kept.refl _ _⟩
 case a7=>
  rintro D Wk hD ⟨hI,_⟩ TF;have hJN:J (l.filter (eF sn)).length Wk:=by
   rw[←Li];have e:l.length=N:=hlen.out;rw[e];exact hI
  have HJN:=Lib.hid (hJ.own _ Wk _ (some D) hJN (grownBy_putObj' Wk D (.deferred none)) (fun r e=>by cases e;exact ⟨by omega,_,TF,rfl⟩));clear hI hJN
  gi_wp2_with fail
  rw[Exit.noGoto_normal];refine ⟨by simp,.inl ⟨_,_,rfl,run_takeDeferred TF,?_⟩⟩;exact ⟨_,results_none rfl _ _ _,⟨_,rfl⟩,HJN.out⟩
 case a6=>
  rintro l' k Wk hk ⟨hIJ,hIK⟩ ⟨oR,Rs,XB⟩;obtain ⟨x,hx⟩:∃x,l[k]? =some x:=⟨_,List.getElem?_eq_getElem (by have:=hlen.out;omega)⟩
  have hav:xI l k= #[.int .i64 (k:Int),.agg #[.int .i64 x.sn,.bool x.part,.int .i64 x.fr,.int .i64 x.lt]]:=by unfold xI;rw[hx];rfl
  rw[hav];have TG:=Lib.hid hx;clear hav hx;have hbn:=aA.new Wk 116 #[.int .i64 x.sn,.bool x.part,.int .i64 x.fr,.int .i64 x.lt];have HBN:=Lib.hid hbn;clear hbn
  gi_wp2
  refine ⟨?_,?_⟩
  ·exact KeepsFrom.fq ((Below.refl _ Wk).alloc (Nat.le_refl _) _)
  intro W3 o' hW3;have hrl:=(Array.getElem?_eq_some_iff.1 Rs).1;have hKA:Kept (fun k o=>M k o∨k=W2.heap.size+1) Wk (Wk.putObj (W2.heap.size+1) o'):=(Kept.refl _ Wk).grown (grownBy_putObj' Wk _ o') (fun j e _ _=>by cases e;exact .inr rfl);have XC:J (jQ (eF sn) l k) (Wk.putObj (W2.heap.size+1) o'):=hJ.own _ Wk _ (some (W2.heap.size+1)) hIJ (grownBy_putObj' Wk _ o') (fun r e=>by cases e;exact ⟨by omega,oR,Rs,XB⟩);have TH:Below Wk.heap.size (Wk.putObj (W2.heap.size+1) o') W3:=by rw[hW3];exact wU hrl _ _
  have Xp:(Wk.putObj (W2.heap.size+1) o').heap.size=Wk.heap.size:=by simp[World.putObj]
  have Ns:=hIK.size;have gb:aA W3 b 3 #[.int .i64 sn]:=by
   rw[hW3];exact ((HB2.out.kept hIK (by rintro (h|h);exact hMb _ h;omega)).alloc _).putObj (by omega) _
  have gy:aA W3 W.heap.size 155 #[.func (.yield p) #[] #[]]:=by
   rw[hW3];refine ((HY2.out.kept hIK ?_).alloc _).putObj (by omega) _;rintro (h|h)
   ·obtain ⟨cs,r,e⟩:=hMo _ _ (by omega) h;injection e with _ e2
    exact absurd e2 (by decide)
   ·omega
  have gn:aA W3 Wk.heap.size 116 #[.int .i64 x.sn,.bool x.part,.int .i64 x.fr,.int .i64 x.lt]:=by
   rw[hW3];exact HBN.out.putObj (by omega) _
  have hKF:∀k o,W2.heap.size≤k→o.isCells=false→¬M k o:=fun k o hk hc hm=>by
   obtain ⟨cs,r,e⟩:=hMo _ _ (by omega) hm;subst e;cases hc
  generalize Wk.putObj (W2.heap.size+1) o'=WA at*;have z0:=gb.cell 0;have z1:=gy.cell 0;obtain ⟨y0,y1,y2,y3⟩:=gn.wC;simp at z0 z1;have HW3:=Lib.hid hW3;have HIK:=Lib.hid hIK;clear hW3 hIJ;have hend:∀W4 W5,Below Wk.heap.size WA W4→KeepsFrom W2.heap.size W3 W4→Kept M W4 W5→KeepsFrom W2.heap.size W3 W5∧Kept (fun k o=>M k o∨k=W2.heap.size+1) Wk W5∧Kept (fun k o=>M k o∨k=W2.heap.size+1) W2 W5:=fun W4 W5 h4 hk4 h5=>by
   have e1:Kept (fun k o=>M k o∨k=W2.heap.size+1) Wk W5:=(hKA.trans (Kept.fq (by rw[Xp];exact h4))).trans (h5.mono fun _ _ hm=> .inl hm);exact ⟨KeepsFrom.tr hk4 (KeepsFrom.VB h5 hKF),e1,HIK.out.trans e1⟩
  by_cases hs:x.sn=sn
  ·have hp:eF sn x=true:=by unfold eF;exact decide_eq_true hs
   have hget:=Cu (eF sn) l k x TG.out hp;have hcs:=rU (eF sn) l k x TG.out;rw[if_pos hp] at hcs;have hlt2:jQ (eF sn) l k<(l.filter (eF sn)).length:=(List.getElem?_eq_some_iff.1 hget).1;have Rt:=fun W4 hj=>HY.out (jQ (eF sn) l k) W4 hlt2 hj
   unfold uj at Rt;rw[hget] at Rt;simp only[Lh] at Rt;cases hpt:x.part with
   |true=>
    simp only[hpt,if_true] at Rt y1;obtain ⟨fn,tmps,assign,body,hy,hR⟩:=Rt W3 (hJ.fresh _ _ _ XC (by rw[Xp];exact TH));have HR:=Lib.hid (RoundIn.ix (m':=n-1-1-1) (l':=l') hR);have HE:=Lib.hid hend;have Ru:=Lib.hid hcs;have VC:=Lib.hid TH;clear hR Rt hget hcs hlt2 hend gb gy gn TH hKA XC hp
    gi_wp2_with fail
    refine ⟨fun hh=>(by cases hh),HR.out.mono ?_⟩;rintro e W5 ⟨rfl,Ze,Km⟩
    gi_wp2_with fail
    obtain ⟨e1,e2,e3⟩:=HE.out W3 W5 VC.out ⟨Nat.le_refl _,fun _ _ _ h _=>h⟩ Km;rw[←Ru.out] at Ze;exact ⟨e1,e2,Ze,e3⟩
   |false=>
    simp only[hpt,Bool.false_eq_true,if_false] at Rt y1;have g4:=(gn.aC 2 (.int .i64 0)).aC 3 (.int .i64 32767);simp at g4;obtain ⟨u0,u1,u2,u3⟩:=g4.wC;have f2:=gn.frozen 2;have f3:=(gn.aC 2 (.int .i64 0)).frozen 3;have hB4:Below Wk.heap.size WA ((W3.setCell ⟨Wk.heap.size,2,none⟩ (.int .i64 0)).setCell ⟨Wk.heap.size,3,none⟩ (.int .i64 32767)):=(TH.setCell (p:=⟨Wk.heap.size,2,none⟩) (Nat.le_refl _) _).setCell (p:=⟨Wk.heap.size,3,none⟩) (Nat.le_refl _) _;have hK4:KeepsFrom W2.heap.size W3 ((W3.setCell ⟨Wk.heap.size,2,none⟩ (.int .i64 0)).setCell ⟨Wk.heap.size,3,none⟩ (.int .i64 32767)):=KeepsFrom.tr (KeepsFrom.D4 gn _) (KeepsFrom.D4 (gn.aC 2 (.int .i64 0)) _);have v1:=((gy.far (p:=⟨Wk.heap.size,2,none⟩) (by simp;omega) (.int .i64 0)).far (p:=⟨Wk.heap.size,3,none⟩) (by simp;omega) (.int .i64 32767)).cell 0;simp at v1;obtain ⟨fn,tmps,assign,body,hy,hR⟩:=Rt _ (hJ.fresh _ _ _ XC (by rw[Xp];exact hB4));have HR:=Lib.hid (RoundIn.ix (m':=n-1-1-1) (l':=l') hR);have HE:=Lib.hid hend;have Ru:=Lib.hid hcs;have uP:=Lib.hid hB4;have Co:=Lib.hid hK4;clear hR Rt hget hcs hlt2 hend gb gy gn TH hKA XC hp hB4 hK4 g4
    gi_wp2_with fail
    refine ⟨fun hh=>(by cases hh),HR.out.mono ?_⟩;rintro e W5 ⟨rfl,Ze,Km⟩
    gi_wp2_with fail
    obtain ⟨e1,e2,e3⟩:=HE.out _ W5 uP.out Co.out Km;rw[←Ru.out] at Ze;exact ⟨e1,e2,Ze,e3⟩
  ·have hp:eF sn x=false:=by unfold eF;exact decide_eq_false hs
   have hcs:=rU (eF sn) l k x TG.out;rw[if_neg (by rw[hp];decide)] at hcs
   replace hcs:jQ (eF sn) l (k+1)=jQ (eF sn) l k:=hcs
   have hJ3:=hJ.fresh _ _ _ XC (by rw[Xp];exact TH);obtain ⟨e1,e2,e3⟩:=hend W3 W3 TH ⟨Nat.le_refl _,fun _ _ _ h _=>h⟩ (Kept.refl _ _);rw[←hcs] at hJ3;have HF:=Lib.hid (show KeepsFrom W2.heap.size W3 W3∧Kept (fun k o=>M k o∨k=W2.heap.size+1) Wk W3∧J (jQ (eF sn) l (k+1)) W3∧Kept (fun k o=>M k o∨k=W2.heap.size+1) W2 W3 from ⟨e1,e2,hJ3,e3⟩);clear hcs hJ3 e1 e2 e3 hend hp gb gy gn TH hKA XC
   gi_wp2_with fail
   exact HF.out
end
section
open Go.RowKit Go.Shelf
attribute [local go_sem] Oper.semAt_some
section
variable (w:World)
set_option maxRecDepth 10000 in
set_option maxHeartbeats 2000000 in
theorem FW (a0 a1 b0 b1:Nat) (h:a1<1000000):
 Calls Tryz.prog 110 #[.agg #[.int .i64 (a0:Int),.int .i64 (a1:Int)],.agg #[.int .i64 (b0:Int),.int .i64 (b1:Int)]] w fun e w'=>e= .returned (.tuple #[.agg #[.int .i64 (a0:Int),.int .i64 (b1:Int)],.bool (decide (a1+1=b0))])∧Below w.heap.size w w':=by
 have hw1:IntKind.i64.wrap ((a1:Int)+1)=(a1:Int)+1:=IntWalk.i64_in _ (by omega);have hd:decide ((a1:Int)+1=(b0:Int))=decide (a1+1=b0):=by
  rcases Nat.decEq (a1+1) b0 with h1|h1
  ·rw[decide_eq_false h1];exact decide_eq_false (by omega)
  ·rw[decide_eq_true h1];exact decide_eq_true (by omega)
 go_enter Tryz.func110,Tryz.ntmps110;go_wp2;have ba:=((aA.new w 99 #[.int .i64 (a0:Int),.int .i64 (a1:Int)]).alloc (.cells #[.int .i64 (b0:Int),.int .i64 (b1:Int)] 99)).alloc (.cells #[.int .i64 0,.int .i64 0] 99);have bb:=(aA.new (w.alloc (.cells #[.int .i64 (a0:Int),.int .i64 (a1:Int)] 99)) 99 #[.int .i64 (b0:Int),.int .i64 (b1:Int)]).alloc (.cells #[.int .i64 0,.int .i64 0] 99);have bc:=aA.new ((w.alloc (.cells #[.int .i64 (a0:Int),.int .i64 (a1:Int)] 99)).alloc (.cells #[.int .i64 (b0:Int),.int .i64 (b1:Int)] 99)) 99 #[.int .i64 0,.int .i64 0];simp only[World.size_alloc] at bb bc;have hB:Below w.heap.size w (((w.alloc (.cells #[.int .i64 (a0:Int),.int .i64 (a1:Int)] 99)).alloc (.cells #[.int .i64 (b0:Int),.int .i64 (b1:Int)] 99)).alloc (.cells #[.int .i64 0,.int .i64 0] 99)):=(((Below.refl _ w).alloc (Nat.le_refl _) _).alloc (by simp) _).alloc (by simp;omega) _;generalize ((w.alloc (.cells #[.int .i64 (a0:Int),.int .i64 (a1:Int)] 99)).alloc (.cells #[.int .i64 (b0:Int),.int .i64 (b1:Int)] 99)).alloc (.cells #[.int .i64 0,.int .i64 0] 99)=w1 at*;have HB:=Lib.hid hB;have x0:=ba.cell 0;have x1:=ba.cell 1;have y0:=bb.cell 0;have y1:=bb.cell 1;have c0:=bc.cell 0;have c1:=bc.cell 1;have fc:=bc.frozen 0;have fc1:=bc.frozen 1;simp at x0 x1 y0 y1 c0 c1;have BC:=Lib.hid bc;clear ba bb bc hB
 go_region
 all_goals
  go_wp2_with fail;have bz:=((BC.out.aC 0 (.int .i64 (a0:Int))).aC 1 (.int .i64 (b1:Int)));simp at bz;have z0:=bz.cell 0;have z1:=bz.cell 1;simp at z0 z1;have hbeq:((a1:Int)+1==(b0:Int))=decide (a1+1=b0):=by
   rw[←hd];rfl
  have HBZ:=Lib.hid ((HB.out.setCell (p:=⟨w.heap.size+1+1,0,none⟩) (by simp;omega) (.int .i64 (a0:Int))).setCell (p:=⟨w.heap.size+1+1,1,none⟩) (by simp;omega) (.int .i64 (b1:Int))).drew;clear bz;refine bodyPost_ret (v:= .tuple #[.agg #[.int .i64 (a0:Int),.int .i64 (b1:Int)],.bool ((a1:Int)+1==(b0:Int))]) ?_ rfl ?_
  ·rw[results_cell_tmp rfl];go_simp
   done
  ·exact ⟨by rw[hbeq],HBZ.out⟩
end
end
section
open Go.RowKit Go.Shelf
attribute [local go_sem] Oper.semAt_some
theorem oW {P:Program} {ops:Array Oper} {Q:Exit→Act→World→Prop} {md:Region.Mode} {S:World→Prop} {L:List Nat} {i k:Nat} {oi ok:Oper} {fuel:Nat} {listed:Array Bool} {a:Act} {w:World} (hi:ops[i]? =some oi) (hk:ops[k]? =some ok) (hr:Region.ready md ops listed= [i,k]) (hwi:Region.wanted oi (yielded ops a.tmps)=true) (hwk:Region.wanted ok (yielded ops a.tmps)=true)
 (h:∀K:Act→World→Prop,(∀a' w',S w'→fG P md ops Q S L fuel (listed.setIfInBounds i true) a' w'→K a' w')→oi.wp P a w K Q)
 (h2:∀K:Act→World→Prop,(∀a' w',S w'→fG P md ops Q S L fuel (listed.setIfInBounds k true) a' w'→K a' w')→ok.wp P a w K Q):fG P md ops Q S L (fuel+1) listed a w:=by
 refine ⟨fun h0=>(by rw[hr] at h0;cases h0),fun j hj=> ?_⟩;rw[hr] at hj;simp only[List.mem_cons,List.not_mem_nil,or_false] at hj;rcases hj with rfl|rfl
 ·unfold wpOp;simp only[hi,hwi,if_true];exact .inl (h _ fun a' w' hs h'=>⟨fun _=>hs,h'⟩)
 ·unfold wpOp;simp only[hk,hwk,if_true];exact .inl (h2 _ fun a' w' hs h'=>⟨fun _=>hs,h'⟩)
section
variable (w:World)
theorem Rv (r:List (Nat × Nat)) (y:Nat × Nat) (a b:Nat):((mV (r++ [y])).set (r.length*2) (.int .i64 (a:Int))).set (r.length*2+1) (.int .i64 (b:Int))=mV (r++ [(a,b)]):=by
 have h:=rQ r;rw[tQ,tQ,←h,List.set_append_right _ _ (by omega),List.set_append_right _ _ (by omega)];simp[mV]
theorem Jk (w:World) (x:Nat × Nat):cZ (w.alloc (.cells #[.int .i64 (x.1:Int),.int .i64 (x.2:Int)] 99)) (some ⟨w.heap.size,0,none⟩) 1 1 [x]:=
 ⟨rfl,Nat.le_refl _,by omega,fun _=>⟨_,rfl,by simp,fun j r hr=>by
  cases j with
  |zero=>
   simp at hr;subst hr;have b:=aA.new w 99 #[.int .i64 (x.1:Int),.int .i64 (x.2:Int)];exact ⟨b.cell 0,b.cell 1⟩
  |succ j=>simp at hr⟩⟩
def TI (w:World) (base:Nat) (v:Value) (l:List (Nat × Nat)) (x:Nat × Nat) (e:Ending) (w':World):Prop:=
 ∃v',e= .returned v'∧w'.ownsRow base 99 2 v' (fM l x).length (mV (fM l x))∧Kept (fun k _=>some k=v.ownBlock) w w'∧(v'.ownBlock=v.ownBlock∨∃k,v'.ownBlock=some k∧w.heap.size≤k)
set_option maxRecDepth 10000 in
set_option maxHeartbeats 4000000 in
theorem FX (base:Nat) (v:Value) (l:List (Nat × Nat)) (x:Nat × Nat) (hown:w.ownsRow base 99 2 v l.length (mV l)) (hbase:base≤w.heap.size) (hlen:l.length≤100000) (hsm:∀r∈l,r.2<1000000):
 Calls Tryz.prog 109 #[v,.agg #[.int .i64 (x.1:Int),.int .i64 (x.2:Int)],.func (.func 110) #[] #[]] w (TI w base v l x):=by
 have hown1:=hown.alloc (.cells #[.int .i64 (x.1:Int),.int .i64 (x.2:Int)] 99);have bx:=aA.new w 99 #[.int .i64 (x.1:Int),.int .i64 (x.2:Int)];have hB:Below w.heap.size w (w.alloc (.cells #[.int .i64 (x.1:Int),.int .i64 (x.2:Int)] 99)):=(Below.refl _ w).alloc (Nat.le_refl _) _;have hz:=World.size_alloc w (.cells #[.int .i64 (x.1:Int),.int .i64 (x.2:Int)] 99);rcases List.eq_nil_or_concat l with rfl|⟨r,y,rfl⟩
 ·obtain ⟨A,cp,rfl,hsp,_⟩:=cZ.cO (l:= []) hown;obtain ⟨i0,hi,hz0,hz1,hz2⟩:=nT;have Bj:(w.alloc (.cells #[.int .i64 (x.1:Int),.int .i64 (x.2:Int)] 99)).cell? ⟨w.heap.size,0,none⟩=some (.int .i64 (x.1:Int)):=bx.cell 0;have Bl:(w.alloc (.cells #[.int .i64 (x.1:Int),.int .i64 (x.2:Int)] 99)).cell? ⟨w.heap.size,1,none⟩=some (.int .i64 (x.2:Int)):=bx.cell 1;have HB:=Lib.hid hB;have HO:=Lib.hid hown1;clear hB hown hown1 hsp bx hsm;simp only[List.length_nil] at HO ⊢;go_enter Tryz.func109,Tryz.ntmps109;go_upto_region 7 with (fail)
  have HZ:=Lib.hid hz;clear hz;generalize w.alloc (.cells #[.int .i64 (x.1:Int),.int .i64 (x.2:Int)] 99)=w0 at*;have Hy:=Lib.hid (Jk w0 x);have HA:=Lib.hid (HO.out.alloc (.cells #[.int .i64 (x.1:Int),.int .i64 (x.2:Int)] 99));have hbw:base≤(w0.alloc (.cells #[.int .i64 (x.1:Int),.int .i64 (x.2:Int)] 99)).heap.size:=by have:=HZ.out;simp;omega
  go_wp2_with (at_builtin;refine gq _ rfl _ _ 95 rfl base 99 i0 (.agg #[.int .i64 0,.int .i64 0]) 16 qA hi hz0 hz1 hz2 rfl (.slice A 0 cp) 0 (mV []) rfl HA.out (some ⟨w0.heap.size,0,none⟩) 1 1 [x] rfl Hy.out ?c3 ?c4 hbw ?_)
  case c3=>unfold maxLen;omega
  case c4=>omega
  intro v5 w5 hown5 bF hv5;go_wp2_with fail;go_ret;refine ⟨v5,rfl,?_,?_,?_⟩
  ·simpa[fM,mV] using hown5
  ·exact ((Kept.fq HB.out).trans (Kept.fq ((Below.refl _ w0).alloc (Nat.le_refl _) _))).grown bF (fun k e o ho=>e.symm)
  ·rcases hv5 with e|e
   ·exact .inl e
   ·refine .inr ⟨_,e,?_⟩;have:=HB.out.size;simp;omega
 ·simp only[List.concat_eq_append] at*;have hm:fM (r++ [y]) x=if y.2+1=x.1 then r++ [(y.1,x.2)] else r++ [y]++ [x]:=by
   unfold fM;simp
  obtain ⟨gv,cap,rfl,hgl,lN⟩:=hown1.form (by simp);have hlr:(r++ [y]).length=r.length+1:=by simp
  have hc0:=hown1.cellAt (r.length*2) (by rw[hlr];omega);have hc1:=hown1.cellAt (r.length*2+1) (by rw[hlr];omega);obtain ⟨e0,e1⟩:=xE (r++ [y]) r.length y (by simp);rw[e0] at hc0;rw[e1] at hc1;have hfr:=hown1.frozenAt;have hy:=hsm y (by simp);have hcap:r.length+1≤cap:=by
   obtain ⟨A,c,e,hs,_⟩:=cZ.cO (l:=r++ [y]) hown1;injection e with _ _ e3
   rw[e3];have:=hs.cap;omega
  have Og:r.length+1≤100000:=by omega
  have hmx:cap≤9223372036854775807:=by
   obtain ⟨A,c,e,hs,_⟩:=cZ.cO (l:=r++ [y]) hown1;injection e with _ _ e3
   rw[e3];exact hs.mx
  have hlt:=bx.lt;have hw1:IntKind.i64.wrap ((r.length:Int)+1-1)=(r.length:Int):=by rw[IntWalk.i64_in _ (by omega)];omega
  have hw3:IntKind.i64.wrap (r.length:Int)=(r.length:Int):=IntWalk.i64_in _ (by omega);have hw2:(r.length:Int)<(r.length:Int)+1:=by omega
  have HC:=fun W:World=>FW W y.1 y.2 x.1 x.2 hy
  have HCC:=Lib.hid HC;have HO:=Lib.hid hown1;have BX:=Lib.hid bx;have HB:=Lib.hid hB;have HM:=Lib.hid hm;have HV:=Lib.hid hlr;rw[hlr];clear e0 e1 hown hown1 bx hB HC hm hsm hlen hlr;have Bj:(w.alloc (.cells #[.int .i64 (x.1:Int),.int .i64 (x.2:Int)] 99)).cell? ⟨w.heap.size,0,none⟩=some (.int .i64 (x.1:Int)):=BX.out.cell 0;have Bl:(w.alloc (.cells #[.int .i64 (x.1:Int),.int .i64 (x.2:Int)] 99)).cell? ⟨w.heap.size,1,none⟩=some (.int .i64 (x.2:Int)):=BX.out.cell 1;go_enter Tryz.func109,Tryz.ntmps109;go_wp2_with fail;have hsz:=World.size_alloc w (.cells #[.int .i64 (x.1:Int),.int .i64 (x.2:Int)] 99);generalize hW0:w.alloc (.cells #[.int .i64 (x.1:Int),.int .i64 (x.2:Int)] 99)=w0 at*;clear hW0;go_cut [8,9] from 14 to 24 (fun s8 s9 wx=>∃bj,s8= .pointer (some ⟨bj,0,none⟩)∧s9= .bool (decide (y.2+1=x.1))∧w0.heap.size≤bj∧aA wx bj 99 #[.int .i64 (y.1:Int),.int .i64 (x.2:Int)]∧Below w0.heap.size w0 wx)
  case first=>
   refine bM (fun w'=>w'.cell? ⟨gv,r.length*2,none⟩=some (.int .i64 (y.1:Int))∧w'.cell? ⟨gv,r.length*2+1,none⟩=some (.int .i64 (y.2:Int))∧w'.cell? ⟨w.heap.size,0,none⟩=some (.int .i64 (x.1:Int))∧w'.cell? ⟨w.heap.size,1,none⟩=some (.int .i64 (x.2:Int))) [12] (by kernel_rfl) ?_;have hHeld:=(show (fun w'=>w'.cell? ⟨gv,r.length*2,none⟩=some (.int .i64 (y.1:Int))∧w'.cell? ⟨gv,r.length*2+1,none⟩=some (.int .i64 (y.2:Int))∧w'.cell? ⟨w.heap.size,0,none⟩=some (.int .i64 (x.1:Int))∧w'.cell? ⟨w.heap.size,1,none⟩=some (.int .i64 (x.2:Int))) w0.drew from ⟨hc0,hc1,Bj,Bl⟩);refine tkY 0 ?_ rfl (Or.inl ⟨by rfl,?_⟩) hHeld ?_;rotate_left
   ·intro w' hSw;go_simp
    try with_reducible rfl
   try simp only[Act.put,zzA,zzE,yo,UM,zzD]
   refine tkY 1 ?_ rfl (Or.inl ⟨by rfl,?_⟩) hHeld ?_;rotate_left
   ·intro w' hSw;go_simp
    try with_reducible rfl
   try simp only[Act.put,zzA,zzE,zzF,yo,UM,zzD]
   refine tkY 2 ?_ rfl (Or.inl ⟨by rfl,?_⟩) hHeld ?_;rotate_left
   ·intro w' hSw;go_simp
    try with_reducible rfl
   try simp only[Act.put,zzA,zzE,zzF,yo,UM,zzD]
   refine tkY 3 ?_ rfl (Or.inl ⟨by rfl,?_⟩) hHeld ?_;rotate_left
   ·intro w' hSw;go_simp
    try with_reducible rfl
   try simp only[Act.put,zzA,zzE,zzF,yo,UM,zzD]
   refine tkY 4 ?_ rfl (Or.inl ⟨by rfl,?_⟩) hHeld ?_;rotate_left
   ·intro w' hSw;go_simp
    try with_reducible rfl
   try simp only[Act.put,zzA,zzE,zzF,yo,UM,zzD]
   refine tkX [7,8,9,12] 5 ?_ rfl (Or.inl ⟨by rfl,?_⟩) hHeld ?_;rotate_left
   ·intro w' hSw;obtain ⟨hS1,hS2,ig,pW⟩:=hSw;go_simp
    try with_reducible rfl
   try simp only[Act.put,zzA,zzE,zzF,yo,UM,zzD]
   refine tkX [7,8,9,12] 6 ?_ rfl (Or.inl ⟨by rfl,?_⟩) hHeld ?_;rotate_left
   ·intro w' hSw;obtain ⟨hS1,hS2,ig,pW⟩:=hSw;go_simp
    try with_reducible rfl
   try simp only[Act.put,zzA,zzE,zzF,yo,UM,zzD]
   refine oW (i:=7) (k:=11) rfl rfl (by kernel_rfl) (by rfl) (by rfl) (fun K hK=> ?_) (fun K hK=> ?_)
   ·go_simp;refine (HCC.out _).mono ?_;rintro e w1 ⟨rfl,hb1⟩;have hb2:Below w0.heap.size w0 w1:=((Below.refl _ w0).drew).trans hb1;refine hK _ _ ⟨(hb2.cell (p:=⟨gv,r.length*2,none⟩) lN).trans hc0,(hb2.cell (p:=⟨gv,r.length*2+1,none⟩) lN).trans hc1,(hb2.cell (p:=⟨w.heap.size,0,none⟩) hlt).trans Bj,(hb2.cell (p:=⟨w.heap.size,1,none⟩) hlt).trans Bl⟩ ?_;clear hK K hHeld;have hHeld:=(show (fun w'=>w'.cell? ⟨gv,r.length*2,none⟩=some (.int .i64 (y.1:Int))∧w'.cell? ⟨gv,r.length*2+1,none⟩=some (.int .i64 (y.2:Int))∧w'.cell? ⟨w.heap.size,0,none⟩=some (.int .i64 (x.1:Int))∧w'.cell? ⟨w.heap.size,1,none⟩=some (.int .i64 (x.2:Int))) w1 from ⟨(hb2.cell (p:=⟨gv,r.length*2,none⟩) lN).trans hc0,(hb2.cell (p:=⟨gv,r.length*2+1,none⟩) lN).trans hc1,(hb2.cell (p:=⟨w.heap.size,0,none⟩) hlt).trans Bj,(hb2.cell (p:=⟨w.heap.size,1,none⟩) hlt).trans Bl⟩)
    try simp only[Act.put,zzA,zzE,zzF,yo,UM,zzD]
    refine tkY 8 ?_ rfl (Or.inl ⟨by rfl,?_⟩) hHeld ?_;rotate_left
    ·intro w' hSw;go_simp
     try with_reducible rfl
    try simp only[Act.put,zzA,zzE,zzF,yo,UM,zzD]
    refine tkY 9 ?_ rfl (Or.inl ⟨by rfl,?_⟩) hHeld ?_;rotate_left
    ·intro w' hSw;go_simp
     try with_reducible rfl
    try simp only[Act.put,zzA,zzE,zzF,yo,UM,zzD]
    refine tkY 10 ?_ rfl (Or.inl ⟨by rfl,?_⟩) hHeld ?_;rotate_left
    ·intro w' hSw;go_simp
     try with_reducible rfl
    try simp only[Act.put,zzA,zzE,zzF,yo,UM,zzD]
    have hb3:Below w0.heap.size w0 (w1.alloc (.cells #[.int .i64 0,.int .i64 0] 99)):=hb2.alloc hb2.size _;refine bu (i:=11) rfl (by kernel_rfl) (by rfl) (fun K hK=> ?_);go_simp;refine hK _ _ ⟨(hb3.cell (p:=⟨gv,r.length*2,none⟩) lN).trans hc0,(hb3.cell (p:=⟨gv,r.length*2+1,none⟩) lN).trans hc1,(hb3.cell (p:=⟨w.heap.size,0,none⟩) hlt).trans Bj,(hb3.cell (p:=⟨w.heap.size,1,none⟩) hlt).trans Bl⟩ ?_;clear hK K hHeld
    try simp only[Act.put,zzA,zzE,zzF,yo,UM,zzD]
    have Yw:=Lib.hid (aA.new w1 99 #[.int .i64 (y.1:Int),.int .i64 (x.2:Int)]);have uP:=Lib.hid (hb2.alloc hb2.size (.cells #[.int .i64 (y.1:Int),.int .i64 (x.2:Int)] 99));have HZ:=Lib.hid hb2.size;refine aQ (i:=12) rfl (by kernel_rfl) (by kernel_rfl) (by rfl) (fun K hK=> ?_);go_simp;refine hK _ _ ?_;clear hK K
    try simp only[Act.put,zzA,zzE,zzF,yo,UM,zzD]
    refine tkZ 13 ?_ rfl (Or.inl ⟨by rfl,?_⟩) ?_;rotate_left
    ·intro w' hSw;go_simp
     try with_reducible rfl
    try simp only[Act.put,zzA,zzE,zzF,yo,UM,zzD]
    refine aU (by kernel_rfl) ?_ _;go_wp2_with fail;go_meet;exact ⟨_,rfl,rfl,HZ.out,Yw.out,uP.out⟩
   ·have hb2:Below w0.heap.size w0 (w0.drew.alloc (.cells #[.int .i64 0,.int .i64 0] 99)):=((Below.refl _ w0).drew).alloc (Nat.le_refl _) _;go_simp;refine hK _ _ ⟨(hb2.cell (p:=⟨gv,r.length*2,none⟩) lN).trans hc0,(hb2.cell (p:=⟨gv,r.length*2+1,none⟩) lN).trans hc1,(hb2.cell (p:=⟨w.heap.size,0,none⟩) hlt).trans Bj,(hb2.cell (p:=⟨w.heap.size,1,none⟩) hlt).trans Bl⟩ ?_;clear hK K hHeld
    try simp only[Act.put,zzA,zzE,zzF,yo,UM,zzD]
    refine bu (i:=7) rfl (by kernel_rfl) (by rfl) (fun K hK=> ?_);go_simp;refine (HCC.out _).mono ?_;rintro e w1 ⟨rfl,hb1⟩;have hb3:Below w0.heap.size w0 w1:=hb2.trans (hb1.mono hb2.size);refine hK _ _ ⟨(hb3.cell (p:=⟨gv,r.length*2,none⟩) lN).trans hc0,(hb3.cell (p:=⟨gv,r.length*2+1,none⟩) lN).trans hc1,(hb3.cell (p:=⟨w.heap.size,0,none⟩) hlt).trans Bj,(hb3.cell (p:=⟨w.heap.size,1,none⟩) hlt).trans Bl⟩ ?_;clear hK K;have hHeld:=(show (fun w'=>w'.cell? ⟨gv,r.length*2,none⟩=some (.int .i64 (y.1:Int))∧w'.cell? ⟨gv,r.length*2+1,none⟩=some (.int .i64 (y.2:Int))∧w'.cell? ⟨w.heap.size,0,none⟩=some (.int .i64 (x.1:Int))∧w'.cell? ⟨w.heap.size,1,none⟩=some (.int .i64 (x.2:Int))) w1 from ⟨(hb3.cell (p:=⟨gv,r.length*2,none⟩) lN).trans hc0,(hb3.cell (p:=⟨gv,r.length*2+1,none⟩) lN).trans hc1,(hb3.cell (p:=⟨w.heap.size,0,none⟩) hlt).trans Bj,(hb3.cell (p:=⟨w.heap.size,1,none⟩) hlt).trans Bl⟩)
    try simp only[Act.put,zzA,zzE,zzF,yo,UM,zzD]
    refine tkY 8 ?_ rfl (Or.inl ⟨by rfl,?_⟩) hHeld ?_;rotate_left
    ·intro w' hSw;go_simp
     try with_reducible rfl
    try simp only[Act.put,zzA,zzE,zzF,yo,UM,zzD]
    refine tkY 9 ?_ rfl (Or.inl ⟨by rfl,?_⟩) hHeld ?_;rotate_left
    ·intro w' hSw;go_simp
     try with_reducible rfl
    try simp only[Act.put,zzA,zzE,zzF,yo,UM,zzD]
    refine tkY 10 ?_ rfl (Or.inl ⟨by rfl,?_⟩) hHeld ?_;rotate_left
    ·intro w' hSw;go_simp
     try with_reducible rfl
    try simp only[Act.put,zzA,zzE,zzF,yo,UM,zzD]
    have hbz:aA w1 w0.heap.size 99 #[.int .i64 0,.int .i64 0]:=(aA.new w0.drew 99 #[.int .i64 0,.int .i64 0]).below hb1 (by simp);have hb4:=(hb3.setCell (p:=⟨w0.heap.size,0,none⟩) (Nat.le_refl _) (.int .i64 (y.1:Int))).setCell (p:=⟨w0.heap.size,1,none⟩) (Nat.le_refl _) (.int .i64 (x.2:Int));have hbj:=Nat.le_refl w0.heap.size;rw[hsz] at hbz hb4 hbj;have hbs:=(hbz.aC 0 (.int .i64 (y.1:Int))).aC 1 (.int .i64 (x.2:Int));simp at hbs;have Yw:=Lib.hid hbs;have uP:=Lib.hid hb4;have HZ:=Lib.hid hbj;have fz:=hbz.frozen 0;have fz1:=hbz.frozen 1;have cz0:=hbz.cell 0;have cz1:=hbz.cell 1;simp at cz0 cz1;clear hbs hb4 hbz hbj;refine aQ (i:=12) rfl (by kernel_rfl) (by kernel_rfl) (by rfl) (fun K hK=> ?_);go_simp;refine hK _ _ ?_;clear hK K
    try simp only[Act.put,zzA,zzE,zzF,yo,UM,zzD]
    refine tkZ 13 ?_ rfl (Or.inl ⟨by rfl,?_⟩) ?_;rotate_left
    ·intro w' hSw;go_simp
     try with_reducible rfl
    try simp only[Act.put,zzA,zzE,zzF,yo,UM,zzD]
    refine aU (by kernel_rfl) ?_ _;go_wp2_with fail;go_meet;exact ⟨_,rfl,rfl,by omega,Yw.out,by rw[hsz];exact uP.out⟩
  case rest=>
   obtain ⟨bj,rfl,rfl,hbj,bk,hb4⟩:=hcut;have hc0':=(hb4.cell (p:=⟨gv,r.length*2,none⟩) lN).trans hc0;have hc1':=(hb4.cell (p:=⟨gv,r.length*2+1,none⟩) lN).trans hc1;have hx0:=(hb4.cell (p:=⟨w.heap.size,0,none⟩) hlt).trans Bj;have hx1:=(hb4.cell (p:=⟨w.heap.size,1,none⟩) hlt).trans Bl;have hO4:wc.ownsRow base 99 2 (.slice (some ⟨gv,0,none⟩) (r++ [y]).length cap) (r++ [y]).length (mV (r++ [y])):=
    HO.out.kept (row:=none) ⟨hb4.os,hb4.tape,hb4.output,hb4.size,fun k hk _=>hb4.block k hk⟩ (.inr (by simp[Value.ownBlock]))
   have hfr:=hO4.frozenAt;have EJ:=Lib.hid hO4;have XD:=Lib.hid ((Kept.fq (M:=fun k (_:Obj)=>some k=some gv) HB.out).trans (Kept.fq hb4));clear hO4;have k0:=bk.cell 0;have k1:=bk.cell 1;simp at k0 k1;clear hc0 hc1 Bj Bl hb4 bk;by_cases hj:y.2+1=x.1
   ·rw[decide_eq_true hj];go_wp2_with fail;go_ret;have hm:=HM.out;rw[if_pos hj] at hm;have hs1:=EJ.out.stored (r.length*2) (.int .i64 (y.1:Int));have hs2:=hs1.1.stored (r.length*2+1) (.int .i64 (x.2:Int));have hl:(r++ [y]).length=(r++ [(y.1,x.2)]).length:=by simp
    refine ⟨_,rfl,?_,?_,.inl rfl⟩
    ·rw[hm];have h3:=hs2.1;rw[Rv,hl] at h3;rw[HV.out] at*;simpa using h3
    ·exact (XD.out.setCell (p:=⟨gv,r.length*2,none⟩) (fun _ _=>rfl) _).setCell (p:=⟨gv,r.length*2+1,none⟩) (fun _ _=>rfl) _
   ·rw[decide_eq_false hj];obtain ⟨i0,hi,hz0,hz1,hz2⟩:=nT;have hm:=HM.out;rw[if_neg hj] at hm;have HM2:=Lib.hid hm;have HA:=Lib.hid (EJ.out.alloc (.cells #[.int .i64 (x.1:Int),.int .i64 (x.2:Int)] 99));have Hy:=Lib.hid (Jk wc x);have hbw:base≤(wc.alloc (.cells #[.int .i64 (x.1:Int),.int .i64 (x.2:Int)] 99)).heap.size:=by have:=XD.out.size;simp;omega
    clear hm hc0' hc1' k0 k1 HM hfr;go_wp2_with (at_builtin;refine gq _ rfl _ _ 95 rfl base 99 i0 (.agg #[.int .i64 0,.int .i64 0]) 16 qA hi hz0 hz1 hz2 rfl (.slice (some ⟨gv,0,none⟩) (r++ [y]).length cap) (r++ [y]).length (mV (r++ [y])) (by rw[HV.out];rfl) HA.out (some ⟨wc.heap.size,0,none⟩) 1 1 [x] rfl Hy.out ?c3 ?c4 hbw ?_)
    case c3=>unfold maxLen;rw[HV.out];omega
    case c4=>rw[HV.out];omega
    intro v5 w5 hown5 bF hv5;go_wp2_with fail;go_ret;refine ⟨v5,rfl,?_,?_,?_⟩
    ·rw[HM2.out];rw[tQ (r++ [y]) [x]];simpa using hown5
    ·exact (XD.out.trans (Kept.fq ((Below.refl _ wc).alloc (Nat.le_refl _) _))).grown bF (fun k e o ho=>e.symm)
    ·rcases hv5 with e|e
     ·exact .inl e
     ·refine .inr ⟨_,e,?_⟩;have:=XD.out.size;simp;omega
end
end
section
open Go.RowKit Go.Shelf
attribute [local go_sem] Oper.semAt_some
theorem kC {fn:Func} {p:Tmp} {ty:TypeId} (h:fn.results= #[.cell p ty]) (tmps:Array Value) (P:Program) (w:World):
 (results fn tmps).run P w=((asAddr (tmps.getD p undef)).run P w).andThen fun a w₁=>(loadVar ty a).run P w₁:=by
 simp only[results,h];simp[Sem.run_bind,Result.andThen]
theorem VD {w w':World} (h:Below w.heap.size w w') (o:Obj):Below w.heap.size w (w'.alloc o):=h.alloc h.size o
theorem Oh {w w':World} (h:Below w.heap.size w w') (i:Nat) (u:Value):Below w.heap.size w (w'.setCell ⟨w.heap.size,i,none⟩ u):=h.setCell (p:=⟨w.heap.size,i,none⟩) (Nat.le_refl _) u
def TJ (st:Sd):Array Value:=
 #[.int .i64 (st.first:Nat),.int .i64 (cB st:Nat),.int .i64 (st.dV:Nat),.int .i64 (st.bytes:Nat),.int .i64 (if st.wait=true then ((st.polled:Nat):Int) else 0),.bool st.wait,.int .i64 (if st.wait=true then st.iB else 0),.bool st.fD,.int .i64 (st.done:Nat),.bool st.failed]
section
variable {D F:Nat→Prop} {g:Nat} {c:Cf} {st:Sd} {vq vo:Value} {vs os:List Value} {w:World}
set_option maxRecDepth 10000 in
set_option maxHeartbeats 1000000 in
theorem Jl (h:dY w D F g c st vq vs vo os) (ht:1≤c.timer) (h1:st.first<1024) (h2:st.out.length≤1000000):
 Calls Tryz.prog 22 #[.pointer (some ⟨g,0,none⟩)] w fun e w'=>e= .returned (.agg (TJ st))∧Below w.heap.size w w':=by
 have z:Array Value:= #[.int .i64 0,.int .i64 0,.int .i64 0,.int .i64 0,.int .i64 0,.bool false,.int .i64 0,.bool false,.int .i64 0,.bool false];have HZ:=Lib.hid (aA.new w 63 #[.int .i64 0,.int .i64 0,.int .i64 0,.int .i64 0,.int .i64 0,.bool false,.int .i64 0,.bool false,.int .i64 0,.bool false]);have HB:=Lib.hid ((Below.refl w.heap.size w).alloc (Nat.le_refl _) (.cells #[.int .i64 0,.int .i64 0,.int .i64 0,.int .i64 0,.int .i64 0,.bool false,.int .i64 0,.bool false,.int .i64 0,.bool false] 63));have HH:=Lib.hid (h.below HB.out);clear h z;go_enter Tryz.func22,Tryz.ntmps22;go_wp2_with fail;generalize w.alloc (.cells #[.int .i64 0,.int .i64 0,.int .i64 0,.int .i64 0,.int .i64 0,.bool false,.int .i64 0,.bool false,.int .i64 0,.bool false] 63)=w0 at*;refine (gL HH.out ht).mono ?_;obtain ⟨r,hr⟩:∃r:Int,(if st.failed=true then 8 else 0)=r:=⟨_,rfl⟩
 have dr:(r==1)=false:=by rw[←hr];cases st.failed<;>rfl
 simp only[hr];clear hr;rintro e1 w1 ⟨rfl,rfl⟩;go_wp2_with fail;have y9:=HH.out.blk.cell 11;have y13:=HH.out.blk.cell 13;have Ci:=HH.out.blk.cell 14;have vZ:=HH.out.blk.cell 16;have DI:=HH.out.blk.cell 18;have y8:=HH.out.blk.cell 8;have Xo:=HH.out.blk.cell 19;have hgl:=HH.out.blk.lt;simp[dh] at y9 y13 Ci vZ DI y8 Xo;have hS:∀W,Below w0.heap.size w0 W→(W.cell? ⟨g,11,none⟩=some (.int .i64 (st.first:Nat))∧W.cell? ⟨g,13,none⟩=some (.int .i64 (st.dV:Nat))∧W.cell? ⟨g,14,none⟩=some (.int .i64 (st.bytes:Nat))∧W.cell? ⟨g,16,none⟩=some (.bool st.wait)∧W.cell? ⟨g,18,none⟩=some (.bool st.fD)∧W.cell? ⟨g,8,none⟩=some (.int .i64 (st.done:Nat))∧W.cell? ⟨g,19,none⟩=some (.bool st.failed)):=fun W hW=>
  ⟨(hW.cell (p:=⟨g,11,none⟩) hgl).trans y9,(hW.cell (p:=⟨g,13,none⟩) hgl).trans y13,(hW.cell (p:=⟨g,14,none⟩) hgl).trans Ci,(hW.cell (p:=⟨g,16,none⟩) hgl).trans vZ,(hW.cell (p:=⟨g,18,none⟩) hgl).trans DI,(hW.cell (p:=⟨g,8,none⟩) hgl).trans y8,(hW.cell (p:=⟨g,19,none⟩) hgl).trans Xo⟩
 have HS:=Lib.hid hS;have hnx:∀W,Below w0.heap.size w0 W→Calls Tryz.prog 64 #[.pointer (some ⟨g,0,none⟩)] W fun e w'=>e= .returned (.int .i64 (cB st:Nat))∧∃q,W.drewN q=w':=fun W hW=>
  (qR (HH.out.below hW) h1 h2).mono fun e w' hh=>⟨hh.1,by obtain ⟨q,rfl⟩:=hh.2;exact ⟨q,rfl⟩⟩
 have hn0:Calls Tryz.prog 64 #[.pointer (some ⟨g,0,none⟩)] w0.drew fun e w'=>e= .returned (.int .i64 (cB st:Nat))∧Below w0.heap.size w0 w':=
  (qR (HH.out.below (Below.refl _ w0).drew) h1 h2).mono fun e w' hh=>⟨hh.1,by obtain ⟨q,rfl⟩:=hh.2;exact (Below.refl _ w0).drew.drewN q⟩
 have HN0:=Lib.hid hn0;have Ak:=Lib.hid hnx;clear hn0;clear hnx;clear hS;go_cut [3] from 8 to 38 (fun s3 wx=>∃b,s3= .pointer (some ⟨b,0,none⟩)∧aA wx b 63 #[.int .i64 (st.first:Nat),.int .i64 (cB st:Nat),.int .i64 (st.dV:Nat),.int .i64 (st.bytes:Nat),.int .i64 0,.bool st.wait,.int .i64 0,.bool st.fD,.int .i64 (st.done:Nat),.bool st.failed]∧Below w0.heap.size w0 wx∧w0.heap.size≤b)
 case first=>
  have hb0:=Below.refl w0.heap.size w0
  go_region_held3 (fun W=>W.cell? ⟨g,11,none⟩=some (.int .i64 (st.first:Nat))∧W.cell? ⟨g,13,none⟩=some (.int .i64 (st.dV:Nat))∧W.cell? ⟨g,14,none⟩=some (.int .i64 (st.bytes:Nat))∧W.cell? ⟨g,16,none⟩=some (.bool st.wait)∧W.cell? ⟨g,18,none⟩=some (.bool st.fD)∧W.cell? ⟨g,8,none⟩=some (.int .i64 (st.done:Nat))∧W.cell? ⟨g,19,none⟩=some (.bool st.failed))
   (first|(with_reducible (refine HS.out _ ?_;(repeat first|assumption|refine Below.drew ?_|refine Below.drewN ?_ _|refine VD ?_ _|refine Oh ?_ _ _);done))|go_keep)
   (first
    |(go_at_call 64;with_reducible (refine HN0.out.mono ?_);rintro e7 w7 ⟨rfl,nV⟩)
    |(go_at_call 64;refine (Ak.out _ (by (repeat first|assumption|refine Below.drew ?_|refine Below.drewN ?_ _|refine VD ?_ _|refine Oh ?_ _ _))).mono ?_;rintro e7 w7 ⟨rfl,q7,rfl⟩)
    |fail)
  ·go_wp2;go_meet;exact ⟨_,rfl,aA.new _ _ _,nV.alloc nV.size _,nV.size⟩
  ·go_wp2;go_meet;refine ⟨_,rfl,?_,?_,Nat.le_refl _⟩
   ·have b:=((((((((((((aA.new w0 63 #[.int .i64 0,.int .i64 0,.int .i64 0,.int .i64 0,.int .i64 0,.bool false,.int .i64 0,.bool false,.int .i64 0,.bool false]).drewN (1+q7)).aC 0 (.int .i64 (st.first:Nat))).aC 1 (.int .i64 (cB st:Nat))).aC 2 (.int .i64 (st.dV:Nat))).aC 3 (.int .i64 (st.bytes:Nat))).aC 4 (.int .i64 0)).aC 5 (.bool st.wait)).aC 6 (.int .i64 0)).aC 7 (.bool st.fD)).aC 8 (.int .i64 (st.done:Nat))).aC 9 (.bool st.failed));simpa using b
   ·with_reducible (repeat first|assumption|refine Below.drew ?_|refine Below.drewN ?_ _|refine VD ?_ _|refine Oh ?_ _ _)
 case rest=>
 obtain ⟨b,rfl,hbk,hbb,hbl⟩:=hcut
 replace vZ:=(hbb.cell (p:=⟨g,16,none⟩) hgl).trans vZ
 have Hz:=(HH.out.below hbb).blk.cell 15;have NI:=(HH.out.below hbb).blk.cell 17;have HZ2:=Lib.hid (HZ.out.below hbb HZ.out.lt);simp[dh] at Hz NI;have hgb:g≠b:=by omega
 have vC:=Lib.hid hbb;have hzl:w.heap.size<w0.heap.size:=HZ.out.lt;cases hwt:st.wait with
 |false=>
  rw[hwt] at hbk vZ;have hst:TJ st= #[.int .i64 (st.first:Nat),.int .i64 (cB st:Nat),.int .i64 (st.dV:Nat),.int .i64 (st.bytes:Nat),.int .i64 0,.bool false,.int .i64 0,.bool st.fD,.int .i64 (st.done:Nat),.bool st.failed]:=by unfold TJ;rw[hwt];rfl
  have HST:=Lib.hid hst;have hb2:=hbk;have Jm:=hbb;clear hst hwt hbk hbb Hz NI HS HN0 Ak vC HZ2;have hZ3:=HZ.out.below Jm HZ.out.lt;have HZ3:=Lib.hid hZ3;have N6:=Lib.hid (HB.out.trans (Jm.mono HB.out.size));have b0:=hb2.cell 0;have b1:=hb2.cell 1;have b2:=hb2.cell 2;have b3:=hb2.cell 3;have b4:=hb2.cell 4;have b5:=hb2.cell 5;have b6:=hb2.cell 6;have b7:=hb2.cell 7;have b8:=hb2.cell 8;have b9:=hb2.cell 9;have fb:=hb2.frozen;simp at b0 b1 b2 b3 b4 b5 b6 b7 b8 b9;have z0:=hZ3.cell 0;have z1:=hZ3.cell 1;have z2:=hZ3.cell 2;have z3:=hZ3.cell 3;have z4:=hZ3.cell 4;have z5:=hZ3.cell 5;have z6:=hZ3.cell 6;have z7:=hZ3.cell 7;have z8:=hZ3.cell 8;have z9:=hZ3.cell 9;have fz:=hZ3.frozen;simp at z0 z1 z2 z3 z4 z5 z6 z7 z8 z9;clear hb2 hZ3 Jm;go_wp2;have hz:=((((((((((HZ3.out.aC 0 (.int .i64 (st.first:Nat))).aC 1 (.int .i64 (cB st:Nat))).aC 2 (.int .i64 (st.dV:Nat))).aC 3 (.int .i64 (st.bytes:Nat))).aC 4 (.int .i64 0)).aC 5 (.bool false)).aC 6 (.int .i64 0)).aC 7 (.bool st.fD)).aC 8 (.int .i64 (st.done:Nat))).aC 9 (.bool st.failed));simp at hz;have HF:=Lib.hid hz
  have HE:=Lib.hid ((((((((((N6.out.setCell (p:=⟨w.heap.size,0,none⟩) (Nat.le_refl _) (.int .i64 (st.first:Nat))).setCell (p:=⟨w.heap.size,1,none⟩) (Nat.le_refl _) (.int .i64 (cB st:Nat))).setCell (p:=⟨w.heap.size,2,none⟩) (Nat.le_refl _) (.int .i64 (st.dV:Nat))).setCell (p:=⟨w.heap.size,3,none⟩) (Nat.le_refl _) (.int .i64 (st.bytes:Nat))).setCell (p:=⟨w.heap.size,4,none⟩) (Nat.le_refl _) (.int .i64 0)).setCell (p:=⟨w.heap.size,5,none⟩) (Nat.le_refl _) (.bool false)).setCell (p:=⟨w.heap.size,6,none⟩) (Nat.le_refl _) (.int .i64 0)).setCell (p:=⟨w.heap.size,7,none⟩) (Nat.le_refl _) (.bool st.fD)).setCell (p:=⟨w.heap.size,8,none⟩) (Nat.le_refl _) (.int .i64 (st.done:Nat))).setCell (p:=⟨w.heap.size,9,none⟩) (Nat.le_refl _) (.bool st.failed));clear hz b0 b1 b2 b3 b4 b5 b6 b7 b8 b9 z0 z1 z2 z3 z4 z5 z6 z7 z8 z9 fb fz;refine bodyPost_ret (v:= .agg #[.int .i64 (st.first:Nat),.int .i64 (cB st:Nat),.int .i64 (st.dV:Nat),.int .i64 (st.bytes:Nat),.int .i64 0,.bool false,.int .i64 0,.bool st.fD,.int .i64 (st.done:Nat),.bool st.failed]) ?_ rfl ?_
  ·rw[kC rfl];have e0:=HF.out.cell 0;have e1:=HF.out.cell 1;have e2:=HF.out.cell 2;have e3:=HF.out.cell 3;have e4:=HF.out.cell 4;have e5:=HF.out.cell 5;have e6:=HF.out.cell 6;have e7:=HF.out.cell 7;have e8:=HF.out.cell 8;have e9:=HF.out.cell 9;go_simp
   done
  ·exact ⟨by rw[HST.out],HE.out⟩
 |true=>
  rw[hwt] at hbk vZ;have hst:TJ st= #[.int .i64 (st.first:Nat),.int .i64 (cB st:Nat),.int .i64 (st.dV:Nat),.int .i64 (st.bytes:Nat),.int .i64 (st.polled:Nat),.bool true,.int .i64 st.iB,.bool st.fD,.int .i64 (st.done:Nat),.bool st.failed]:=by unfold TJ;rw[hwt];rfl
  have HST:=Lib.hid hst;have Oc:=Lib.hid hbk;have b4:=hbk.cell 4;have b6:=hbk.cell 6;have f4:=hbk.frozen 4;have f6:=hbk.frozen 6;simp at b4 b6;clear hst hwt hbk hbb HS HN0 Ak HZ2;go_wp2_with fail
  go_region
  all_goals
   go_upto_region 6 with (fail)
   have Jm:=((vC.out.setCell (p:=⟨b,4,none⟩) (by show w0.heap.size≤b;omega) (.int .i64 (st.polled:Nat))).setCell (p:=⟨b,6,none⟩) (by show w0.heap.size≤b;omega) (.int .i64 st.iB)).drew;have hb2:=((Oc.out.aC 4 (.int .i64 (st.polled:Nat))).aC 6 (.int .i64 st.iB)).drew;simp at hb2;clear Hz vZ NI b4 b6 f4 f6;generalize ((wc.setCell ⟨b,4,none⟩ (.int .i64 (st.polled:Nat))).setCell ⟨b,6,none⟩ (.int .i64 st.iB)).drew=wd at*;have hZ3:=HZ.out.below Jm HZ.out.lt;have HZ3:=Lib.hid hZ3;have N6:=Lib.hid (HB.out.trans (Jm.mono HB.out.size));have b0:=hb2.cell 0;have b1:=hb2.cell 1;have b2:=hb2.cell 2;have b3:=hb2.cell 3;have b4:=hb2.cell 4;have b5:=hb2.cell 5;have b6:=hb2.cell 6;have b7:=hb2.cell 7;have b8:=hb2.cell 8;have b9:=hb2.cell 9;have fb:=hb2.frozen;simp at b0 b1 b2 b3 b4 b5 b6 b7 b8 b9;have z0:=hZ3.cell 0;have z1:=hZ3.cell 1;have z2:=hZ3.cell 2;have z3:=hZ3.cell 3;have z4:=hZ3.cell 4;have z5:=hZ3.cell 5;have z6:=hZ3.cell 6;have z7:=hZ3.cell 7;have z8:=hZ3.cell 8;have z9:=hZ3.cell 9;have fz:=hZ3.frozen;simp at z0 z1 z2 z3 z4 z5 z6 z7 z8 z9;clear hb2 hZ3 Jm;go_wp2;have hz:=((((((((((HZ3.out.aC 0 (.int .i64 (st.first:Nat))).aC 1 (.int .i64 (cB st:Nat))).aC 2 (.int .i64 (st.dV:Nat))).aC 3 (.int .i64 (st.bytes:Nat))).aC 4 (.int .i64 (st.polled:Nat))).aC 5 (.bool true)).aC 6 (.int .i64 st.iB)).aC 7 (.bool st.fD)).aC 8 (.int .i64 (st.done:Nat))).aC 9 (.bool st.failed));simp at hz;have HF:=Lib.hid hz
   have HE:=Lib.hid ((((((((((N6.out.setCell (p:=⟨w.heap.size,0,none⟩) (Nat.le_refl _) (.int .i64 (st.first:Nat))).setCell (p:=⟨w.heap.size,1,none⟩) (Nat.le_refl _) (.int .i64 (cB st:Nat))).setCell (p:=⟨w.heap.size,2,none⟩) (Nat.le_refl _) (.int .i64 (st.dV:Nat))).setCell (p:=⟨w.heap.size,3,none⟩) (Nat.le_refl _) (.int .i64 (st.bytes:Nat))).setCell (p:=⟨w.heap.size,4,none⟩) (Nat.le_refl _) (.int .i64 (st.polled:Nat))).setCell (p:=⟨w.heap.size,5,none⟩) (Nat.le_refl _) (.bool true)).setCell (p:=⟨w.heap.size,6,none⟩) (Nat.le_refl _) (.int .i64 st.iB)).setCell (p:=⟨w.heap.size,7,none⟩) (Nat.le_refl _) (.bool st.fD)).setCell (p:=⟨w.heap.size,8,none⟩) (Nat.le_refl _) (.int .i64 (st.done:Nat))).setCell (p:=⟨w.heap.size,9,none⟩) (Nat.le_refl _) (.bool st.failed));clear hz b0 b1 b2 b3 b4 b5 b6 b7 b8 b9 z0 z1 z2 z3 z4 z5 z6 z7 z8 z9 fb fz;refine bodyPost_ret (v:= .agg #[.int .i64 (st.first:Nat),.int .i64 (cB st:Nat),.int .i64 (st.dV:Nat),.int .i64 (st.bytes:Nat),.int .i64 (st.polled:Nat),.bool true,.int .i64 st.iB,.bool st.fD,.int .i64 (st.done:Nat),.bool st.failed]) ?_ rfl ?_
   ·rw[kC rfl];have e0:=HF.out.cell 0;have e1:=HF.out.cell 1;have e2:=HF.out.cell 2;have e3:=HF.out.cell 3;have e4:=HF.out.cell 4;have e5:=HF.out.cell 5;have e6:=HF.out.cell 6;have e7:=HF.out.cell 7;have e8:=HF.out.cell 8;have e9:=HF.out.cell 9;go_simp
    done
   ·exact ⟨by rw[HST.out],HE.out⟩
end
end
end Go.Proofs.YtiecgfahidpldaaGreat
