/- Words for memory: slices that read as li. -/
import Derived.Test.YtbhiklnljiehiaaGreatProg
import Derived.WalkKit
import Derived.WalkSpells
import Derived.WalkLawsBesides
import Derived.Lib.Hide
import Derived.Deep.QuietTactic
import Derived.BigQuiet
import Derived.Deep.LoopGhost
import Derived.Maps.AppendAt
import Derived.Deep.AppendLies
import Derived.Laws.OwnMore
import Derived.RangeFuncNested
import Derived.RegionTactic
import Derived.OwnWalk
namespace Go.Proofs.YtbhiklnljiehiaaGreat
open Go.RowKit
theorem ah {p:Prop} (h:p):RowKit.Hid p:=h
theorem aN {n:Nat}:n≤n:=Nat.le_refl n
theorem block_add (a:Addr) (n:Nat):(a.add n).block=a.block:=by unfold Addr.add;split<;>rfl
theorem add_add (a:Addr) (i j:Nat):(a.add i).add j=a.add (i+j):=by
 unfold Addr.add;by_cases hi:i=0<;>by_cases hj:j=0<;>simp[hi,hj,Nat.add_assoc]
structure Sl (w:World) (B:Nat) (A:Option Addr) (n c:Nat) (xs:List Value):Prop where
 len:xs.length=n
 cap:n≤c
 mx:c≤9223372036854775807
 at_:0<n→∃ad,A=some ad∧ad.block<B∧∀j u,xs[j]? =some u→w.cell? (ad.add j)=some u
section
variable {w w':World} {B B' n c:Nat} {A:Option Addr} {xs:List Value}
theorem Sl.keep (h:Sl w B A n c xs) (hk:∀p:Addr,p.block<B→w'.cell? p=w.cell? p):Sl w' B A n c xs:=
 ⟨h.len,h.cap,h.mx,fun hn=>by
  obtain ⟨ad,e,hb,hc⟩:=h.at_ hn;exact ⟨ad,e,hb,fun j u hu=>(hk _ (by rw[block_add];exact hb)).trans (hc j u hu)⟩⟩
theorem Sl.more (h:Sl w B A n c xs) (hB:B≤B'):Sl w B' A n c xs:=
 ⟨h.len,h.cap,h.mx,fun hn=>by
  obtain ⟨ad,e,hb,hc⟩:=h.at_ hn;exact ⟨ad,e,by omega,hc⟩⟩
theorem Sl.below (h:Sl w B A n c xs) (hb:Below B w w'):Sl w' B A n c xs:=h.keep fun _ hp=>hb.cell hp
theorem Sl.drew (h:Sl w B A n c xs):Sl w.drew B A n c xs:=⟨h.len,h.cap,h.mx,h.at_⟩
theorem Sl.drewN (h:Sl w B A n c xs) (k:Nat):Sl (w.drewN k) B A n c xs:=⟨h.len,h.cap,h.mx,h.at_⟩
theorem Sl.alloc (h:Sl w B A n c xs) (hB:B≤w.heap.size) (o:Obj):Sl (w.alloc o) B A n c xs:=h.keep fun p hp=>World.cell?_alloc_lt w o p (by omega)
theorem Sl.setCell (h:Sl w B A n c xs) {p:Addr} (hB:B≤p.block) (u:Value):Sl (w.setCell p u) B A n c xs:=
 h.keep fun q hq=>World.cell?_setCell_other w p q u (fun e=>by subst e;omega)
theorem Sl.get (h:Sl w B A n c xs) {k:Nat} (hk:k<n):∃ad u,A=some ad∧ad.block<B∧xs[k]? =some u∧w.cell? (ad.add k)=some u:=by
 obtain ⟨ad,e,hb,hc⟩:=h.at_ (by omega);have hl:k<xs.length:=by have:=h.len;omega
 exact ⟨ad,xs[k],e,hb,List.getElem?_eq_getElem hl,hc k _ (List.getElem?_eq_getElem hl)⟩
theorem Sl.VB:Sl w B A 0 c []↔c≤9223372036854775807:=⟨fun h=>h.mx,fun h=>⟨rfl,Nat.zero_le _,h,fun h=>absurd h (by omega)⟩⟩
end
def bv (b:UInt8):Value:= .int .u8 (b.toNat:Int)
def bO (l:List UInt8):List Value:=l.map bv
@[simp] theorem ja (l:List UInt8):(bO l).length=l.length:=by simp[bO]
structure iO (w:World) (B:Nat) (A:Option Addr) (n c:Nat) (vs:List Value) (ps:List (List UInt8)):Prop where
 sl:Sl w B A n c vs
 len:ps.length=n
 each:∀(i:Nat) (p:List UInt8),ps[i]? =some p→∃Ai ci,vs[i]? =some (Value.slice Ai p.length ci)∧Sl w B Ai p.length ci (bO p)
section
variable {w w':World} {B B' n c:Nat} {A:Option Addr} {vs:List Value} {ps:List (List UInt8)}
theorem iO.keep (h:iO w B A n c vs ps) (hk:∀p:Addr,p.block<B→w'.cell? p=w.cell? p):iO w' B A n c vs ps:=
 ⟨h.sl.keep hk,h.len,fun i p hi=>let ⟨Ai,ci,e,hs⟩:=h.each i p hi;⟨Ai,ci,e,hs.keep hk⟩⟩
theorem iO.more (h:iO w B A n c vs ps) (hB:B≤B'):iO w B' A n c vs ps:=
 ⟨h.sl.more hB,h.len,fun i p hi=>let ⟨Ai,ci,e,hs⟩:=h.each i p hi;⟨Ai,ci,e,hs.more hB⟩⟩
theorem iO.below (h:iO w B A n c vs ps) (hb:Below B w w'):iO w' B A n c vs ps:=h.keep fun _ hp=>hb.cell hp
theorem iO.alloc (h:iO w B A n c vs ps) (hB:B≤w.heap.size) (o:Obj):iO (w.alloc o) B A n c vs ps:=h.keep fun p hp=>World.cell?_alloc_lt w o p (by omega)
theorem iO.get (h:iO w B A n c vs ps) {k:Nat} (hk:k<n):
 ∃ad Ai ci,A=some ad∧ad.block<B∧w.cell? (ad.add k)=some (.slice Ai (ps[k]?.getD []).length ci)∧Sl w B Ai (ps[k]?.getD []).length ci (bO (ps[k]?.getD [])):=by
 have hl:k<ps.length:=by have:=h.len;omega
 obtain ⟨Ai,ci,e,hs⟩:=h.each k _ (List.getElem?_eq_getElem hl);obtain ⟨ad,u,rfl,hb,hu,hc⟩:=h.sl.get hk;rw[e] at hu;cases hu;refine ⟨ad,Ai,ci,rfl,hb,?_,?_⟩<;>simpa[List.getElem?_eq_getElem hl] using ‹_›
end
end Go.Proofs.YtbhiklnljiehiaaGreat
namespace Go.Proofs.YtbhiklnljiehiaaGreat
open Go.RowKit
def Kw (o:Obj) (t:TypeId):Prop:=∃cs fr,o= .cells cs t fr
structure Kept (M:Nat→Obj→Prop) (w w':World):Prop where
 os:w'.os=w.os
 tape:w'.tape=w.tape
 output:w'.output=w.output
 size:w.heap.size≤w'.heap.size
 same:∀k o,w.heap[k]? =some o→¬M k o→w'.heap[k]? =some o
section
variable {M M':Nat→Obj→Prop} {a b c w w':World}
theorem Kept.refl (M:Nat→Obj→Prop) (w:World):Kept M w w:=⟨rfl,rfl,rfl,Nat.le_refl _,fun _ _ h _=>h⟩
theorem Kept.trans (h:Kept M a b) (k:Kept M b c):Kept M a c:=
 ⟨k.os.trans h.os,k.tape.trans h.tape,k.output.trans h.output,Nat.le_trans h.size k.size,fun i o hi hn=>k.same i o (h.same i o hi hn) hn⟩
theorem Kept.mono (h:Kept M a b) (hM:∀k o,M k o→M' k o):Kept M' a b:=
 ⟨h.os,h.tape,h.output,h.size,fun i o hi hn=>h.same i o hi (fun hm=>hn (hM i o hm))⟩
theorem Kept.fE (h:Kept M a b) (hM:∀k o,a.heap[k]? =some o→M k o→M' k o):Kept M' a b:=
 ⟨h.os,h.tape,h.output,h.size,fun i o hi hn=>h.same i o hi (fun hm=>hn (hM i o hi hm))⟩
theorem Kept.drew (h:Kept M a w):Kept M a w.drew:=⟨h.os,h.tape,h.output,h.size,h.same⟩
theorem Kept.drewN (h:Kept M a w) (n:Nat):Kept M a (w.drewN n):=⟨h.os,h.tape,h.output,h.size,h.same⟩
theorem _root_.Go.RowKit.Below.drewN {B:Nat} {a w:World} (h:Below B a w) (n:Nat):Below B a (w.drewN n):=⟨h.os,h.tape,h.output,h.size,h.block⟩
theorem lt_of_heap {w:World} {k:Nat} {o:Obj} (h:w.heap[k]? =some o):k<w.heap.size:=(Array.getElem?_eq_some_iff.1 h).1
theorem Kept.alloc (h:Kept M a w) (o:Obj):Kept M a (w.alloc o):=
 ⟨h.os,h.tape,h.output,Nat.le_trans h.size (by simp),fun i x hi hn=>(Below.heap_alloc w o i (lt_of_heap (h.same i x hi hn))).trans (h.same i x hi hn)⟩
theorem Kept.setCell (h:Kept M a w) {p:Addr} (hp:∀o,a.heap[p.block]? =some o→M p.block o) (u:Value):Kept M a (w.setCell p u):=
 ⟨h.os,h.tape,h.output,by simpa[World.setCell] using h.size,fun i x hi hn=>by
  refine (Below.heap_setCell w p u i ?_).trans (h.same i x hi hn);rintro rfl;exact hn (hp x hi)⟩
theorem Kept.grown (h:Kept M a w) {row:Option Nat} (hg:w.grownBy w' row) (hr:∀k,row=some k→∀o,a.heap[k]? =some o→M k o):Kept M a w':=
 ⟨hg.os.trans h.os,hg.tape.trans h.tape,hg.output.trans h.output,Nat.le_trans h.size hg.size,fun i x hi hn=>by
  have hs:=h.same i x hi hn;refine (hg.block i (lt_of_heap hs) ?_).trans hs;intro e;exact hn (hr i e.symm x hi)⟩
theorem Kept.below (h:Kept M a b) {B:Nat} (hM:∀k o,M k o→B≤k) (hB:B≤a.heap.size):Below B a b:=
 ⟨h.os,h.tape,h.output,h.size,fun k hk=>by
  have hlt:k<a.heap.size:=by omega
  have e:a.heap[k]? =some a.heap[k]:=Array.getElem?_eq_getElem hlt;rw[e];exact h.same k _ e (fun hm=>by have:=hM _ _ hm;omega)⟩
theorem Kept.of_below {B:Nat} (h:Below B a b):Kept (fun k _=>B≤k) a b:=
 ⟨h.os,h.tape,h.output,h.size,fun k o hk hn=>by
  rw[h.block k (by omega)];exact hk⟩
end
def au (w:World) (g:Nat) (t:TypeId) (cs:Array Value):Prop:=w.heap[g]? =some (.cells cs t (0,0))
section
variable {w w':World} {g:Nat} {t:TypeId} {cs:Array Value}
theorem au.lt (h:au w g t cs):g<w.heap.size:=lt_of_heap h
theorem au.cell (h:au w g t cs) (i:Nat):w.cell? ⟨g,i,none⟩=cs[i]? :=cell_of_row w g i cs t (0,0) h
theorem au.frozen (h:au w g t cs) (i:Nat):w.frozen? ⟨g,i,none⟩=false:=by
 unfold au at h;simp[World.frozen?,h]
theorem au.new (w:World) (t:TypeId) (cs:Array Value):au (w.alloc (.cells cs t)) w.heap.size t cs:=heap_alloc_new w _
theorem au.drew (h:au w g t cs):au w.drew g t cs:=h
theorem au.drewN (h:au w g t cs) (n:Nat):au (w.drewN n) g t cs:=h
theorem au.alloc (h:au w g t cs) (o:Obj):au (w.alloc o) g t cs:=(Below.heap_alloc w o g h.lt).trans h
theorem au.av (h:au w g t cs) (i:Nat) (u:Value):au (w.setCell ⟨g,i,none⟩ u) g t (cs.setIfInBounds i u):=by
 unfold au at h ⊢;simp[World.setCell,Array.getElem?_modify,h]
theorem au.far (h:au w g t cs) {p:Addr} (hp:g≠p.block) (u:Value):au (w.setCell p u) g t cs:=(Below.heap_setCell w p u g hp).trans h
theorem au.below {B:Nat} (h:au w g t cs) (hb:Below B w w') (hg:g<B):au w' g t cs:=(hb.block g hg).trans h
theorem au.grown {row:Option Nat} (h:au w g t cs) (hb:w.grownBy w' row) (hg:some g≠row):au w' g t cs:=(hb.block g h.lt hg).trans h
theorem au.kept {M:Nat→Obj→Prop} (h:au w g t cs) (hb:Kept M w w') (hn:¬M g (.cells cs t (0,0))):au w' g t cs:=hb.same _ _ h hn
theorem aJ {base:Nat} {e:TypeId} {size n:Nat} {v:Value} {xs:List Value} (h:w.ownsRow base e size v n xs) (hg:au w g t cs) (hne:e≠t):v.ownBlock≠some g:=by
 rcases h.2 with ⟨rfl,_⟩|⟨g',cap,cur,rfl,_,hh,_⟩
 ·simp[Value.ownBlock]
 ·intro he;have:g'=g:=by simpa[Value.ownBlock] using he
  subst this;unfold au at hg;rw[hg] at hh;injection hh with hh
  injection hh with _ ht
  exact hne ht.symm
end
theorem aO (W:World) (b i:Nat) (v:Value):W.grownBy (W.setCell ⟨b,i,none⟩ v) (some b):=
 ⟨rfl,rfl,rfl,by simp[World.setCell],fun k _ hk=>Below.heap_setCell W ⟨b,i,none⟩ v k (fun e=>hk (by rw[e]))⟩
theorem _root_.Go.World.ownsRow.drew' {w:World} {base:Nat} {e:TypeId} {size n:Nat} {v:Value} {xs:List Value} (h:w.ownsRow base e size v n xs):w.drew.ownsRow base e size v n xs:=h
theorem bU {w:World} {base:Nat} {e:TypeId} {size n k:Nat} {v:Value} {xs:List Value} (h:w.ownsRow base e size v n xs) (hk:v.ownBlock=some k):∃o,w.heap[k]? =some o∧Kw o e∧base≤k:=by
 rcases h.2 with ⟨rfl,_⟩|⟨g',cap,cur,rfl,hb,hh,_⟩
 ·simp[Value.ownBlock] at hk
 ·have:g'=k:=by simpa[Value.ownBlock] using hk
  subst this;exact ⟨_,hh,⟨_,_,rfl⟩,hb⟩
def MB (M:Nat→Obj→Prop) (N:Nat) (k:Nat) (o:Obj):Prop:=M k o∨(N≤k∧o.isCells=false)
theorem MB.b {M:Nat→Obj→Prop} (w:World):∀(W:World) (l:Nat) (o o':Obj),w.heap.size≤l→W.heap[l]? =some o→o.isCells=false→o.isWalk=false→Kept (MB M w.heap.size) W (W.putObj l o'):=
 fun W l o o' hl ho hc _=>(Kept.refl _ W).grown (grownBy_putObj' W l o') (fun k e x hx=>by
  cases e;rw[ho] at hx;cases hx;exact .inr ⟨hl,hc⟩)
theorem tK {β:Type} {M:Nat→Obj→Prop} {N:Nat} {w₀:World}:OwnFrom N (fun (_:β) W=>Kept (MB M N) w₀ W):=
 fun _ X Y row hs hg hr=>hs.trans ((Kept.refl _ X).grown hg (fun k e x hx=>by
  obtain ⟨h1,o,ho,hc⟩:=hr k e;rw[ho] at hx;cases hx;exact .inr ⟨h1,hc⟩))
theorem Kept.drop {M:Nat→Obj→Prop} {w W:World} (h:Kept (MB M w.heap.size) w W):Kept M w W:=
 h.fE fun k o ho hm=>hm.resolve_right fun hh=>by have:=lt_of_heap ho;omega
theorem Kept.mb {M:Nat→Obj→Prop} {N:Nat} {w W:World} (h:Kept M w W):Kept (MB M N) w W:=h.mono fun _ _ hm=> .inl hm
theorem Kept.from {M:Nat→Obj→Prop} {N:Nat} {w W:World} (h:Kept M w W) (hM:∀k o,w.heap[k]? =some o→o.isCells=false→N≤k→¬M k o):KeepsFrom N w W:=
 ⟨h.size,fun k o hk ho hc=>h.same k o ho (hM k o ho hc hk)⟩
theorem Kept.taken {M:Nat→Obj→Prop} {N:Nat} {w W:World} (h:Kept (MB M N) w W) {D:Nat} {o:Obj} (o':Obj) (hD:N≤D) (ho:W.heap[D]? =some o) (hc:o.isCells=false):Kept (MB M N) w (W.putObj D o'):=
 h.trans ((Kept.refl _ W).grown (grownBy_putObj' W D o') (fun k e x hx=>by
  cases e;rw[ho] at hx;cases hx;exact .inr ⟨hD,hc⟩))
end Go.Proofs.YtbhiklnljiehiaaGreat
namespace Go.Proofs.YtbhiklnljiehiaaGreat
open Go.RowKit
section
variable {P:Program} (w:World)
theorem jy (base:Nat) (t ty e:TypeId) (i:TypeInfo) (size:Nat) (ht:P.underlying t=some (.slice e)) (hi:P.info? e=some i)
 (v:Value) (n:Nat) (xs:List Value) (hown:w.ownsRow base e size v n xs) (c:Nat):(Builtin.append_ #[t,t] ty #[v,.slice none 0 c]).run P w= .ok v w:=by
 rcases hown.2 with ⟨rfl,rfl⟩|⟨g,cap,cur,rfl,_,_,hnc,_⟩
 ·simp[Builtin.append_,run_underlying ht,sizeOf,typeInfo,hi,Builtin.lenOf,Builtin.firstCells]
 ·simp[Builtin.append_,run_underlying ht,sizeOf,typeInfo,hi,Builtin.lenOf,Builtin.firstCells,hnc,storeCells]
theorem AX (base:Nat) (t ty e:TypeId) (i:TypeInfo) (z:Value) (bytes:Nat) (ht:P.underlying t=some (.slice e)) (hi:P.info? e=some i) (hz:i.zero=some z)
 (hsize:i.size=1) (hby:i.bytes=bytes) (hzs:z.cells.size=1)
 (v:Value) (n:Nat) (xs:List Value) (hown:w.ownsRow base e 1 v n xs)
 (B:Nat) (A:Option Addr) (m c:Nat) (news:List Value) (hr:Sl w B A m c news) (h1:∀u∈news,u.oneCell'=true)
 (h63:n+m≤maxLen) (hbytes:(n+m)*bytes≤140737488355328) (hbase:base≤w.heap.size):
 ∃v' w',(Builtin.append_ #[t,t] ty #[v,.slice A m c]).run P w= .ok v' w'∧w'.ownsRow base e 1 v' (n+m) (xs++news)∧w.grownBy w' v.ownBlock∧
  (v'.ownBlock=v.ownBlock∨v'.ownBlock=some w.heap.size):=by
 rcases A with _|ad
 ·have hm:m=0:=by
   rcases Nat.eq_zero_or_pos m with h0|h0
   ·exact h0
   ·obtain ⟨ad,h,_⟩:=hr.at_ h0;cases h
  subst hm;have hn:news= []:=List.eq_nil_of_length_eq_zero hr.len;subst hn;exact ⟨v,w,jy w base t ty e i 1 ht hi v n xs hown c,by simpa using hown,World.grownBy.refl w _,.inl rfl⟩
 ·have hcells:∀j u,news[j]? =some u→w.cell? (ad.add j)=some u:=by
   intro j u hu;rcases Nat.eq_zero_or_pos m with h0|h0
   ·subst h0;have hn:news= []:=List.eq_nil_of_length_eq_zero hr.len;subst hn;simp at hu
   ·obtain ⟨yu,h,_,hc⟩:=hr.at_ h0;injection h with h
    subst h;exact hc j u hu
  obtain ⟨v',w',hrun,h2,h3,_,h5⟩:=run_append_own_at (P:=P) w base t ty e i z 1 bytes ht hi hz hsize hby hzs (by omega) v n xs hown ad m c news (by rw[hr.len];omega) hcells h1 h63 hbytes hbase;exact ⟨v',w',hrun,h2,h3,h5⟩
theorem tL {o:Oper} {a:Act} {K:Act→World→Prop} {Q:Exit→Act→World→Prop} (s x:Operand) (t:TypeId)
 (ho:o.op= .call {callee:= .builtin .append,args:= #[s,x],argTypes:= #[t,t]})
 (base:Nat) (e:TypeId) (i:TypeInfo) (z:Value) (bytes:Nat) (ht:P.underlying t=some (.slice e)) (hi:P.info? e=some i) (hz:i.zero=some z)
 (hsize:i.size=1) (hby:i.bytes=bytes) (hzs:z.cells.size=1)
 (v:Value) (n:Nat) (xs:List Value) (hs:a.eval s=v) (hown:w.ownsRow base e 1 v n xs)
 (B:Nat) (A:Option Addr) (m c:Nat) (news:List Value) (hx:a.eval x= .slice A m c) (hr:Sl w B A m c news) (h1:∀u∈news,u.oneCell'=true)
 (h63:n+m≤maxLen) (hbytes:(n+m)*bytes≤140737488355328) (hbase:base≤w.heap.size)
 (h:∀v' w',w'.ownsRow base e 1 v' (n+m) (xs++news)→w.grownBy w' v.ownBlock→(v'.ownBlock=v.ownBlock∨v'.ownBlock=some w.heap.size)→K (a.put o.dst v') w'):o.wp P a w K Q:=by
 obtain ⟨v',w',hrun,h2,h3,h4⟩:=AX (P:=P) w base t o.type e i z bytes ht hi hz hsize hby hzs v n xs hown B A m c news hr h1 h63 hbytes hbase;unfold Oper.wp execOp;simp only[ho,resolve,invoke,builtin,Sem.run_bind,Sem.run_pure,Result.andThen_ok,List.map_toArray,List.map_cons,List.map_nil,hs,hx,hrun];exact h v' w' h2 h3 h4
theorem jS {ops:Array Oper} {rest:List Oper} {o:Oper} {a:Act} {Q:Exit→Act→World→Prop} (hgd:o.guard=none) (s x:Operand) (t:TypeId)
 (ho:o.op= .call {callee:= .builtin .append,args:= #[s,x],argTypes:= #[t,t]})
 (base:Nat) (e:TypeId) (i:TypeInfo) (z:Value) (bytes:Nat) (ht:P.underlying t=some (.slice e)) (hi:P.info? e=some i) (hz:i.zero=some z)
 (hsize:i.size=1) (hby:i.bytes=bytes) (hzs:z.cells.size=1)
 (v:Value) (n:Nat) (xs:List Value) (hs:a.eval s=v) (hown:w.ownsRow base e 1 v n xs)
 (B:Nat) (A:Option Addr) (m c:Nat) (news:List Value) (hx:a.eval x= .slice A m c) (hr:Sl w B A m c news) (h1:∀u∈news,u.oneCell'=true)
 (h63:n+m≤maxLen) (hbytes:(n+m)*bytes≤140737488355328) (hbase:base≤w.heap.size)
 (h:∀v' w',w'.ownsRow base e 1 v' (n+m) (xs++news)→w.grownBy w' v.ownBlock→(v'.ownBlock=v.ownBlock∨v'.ownBlock=some w.heap.size)→wpList P ops Q rest (a.put o.dst v') w'):wpList P ops Q (o::rest) a w:=
 wpList_plain hgd fun _ hK=>tL w s x t ho base e i z bytes ht hi hz hsize hby hzs v n xs hs hown B A m c news hx hr h1 h63 hbytes hbase fun v' w' h2 h3 h4=>hK _ _ (h v' w' h2 h3 h4)
theorem fu {ops:Array Oper} {o:Oper} {a:Act} {K:Act→World→Prop} {Q:Exit→Act→World→Prop} {E:Prop} (hgd:o.guard=none) (s x:Operand) (t:TypeId)
 (ho:o.op= .call {callee:= .builtin .append,args:= #[s,x],argTypes:= #[t,t]})
 (base:Nat) (e:TypeId) (i:TypeInfo) (z:Value) (bytes:Nat) (ht:P.underlying t=some (.slice e)) (hi:P.info? e=some i) (hz:i.zero=some z)
 (hsize:i.size=1) (hby:i.bytes=bytes) (hzs:z.cells.size=1)
 (v:Value) (n:Nat) (xs:List Value) (hs:a.eval s=v) (hown:w.ownsRow base e 1 v n xs)
 (B:Nat) (A:Option Addr) (m c:Nat) (news:List Value) (hx:a.eval x= .slice A m c) (hr:Sl w B A m c news) (h1:∀u∈news,u.oneCell'=true)
 (h63:n+m≤maxLen) (hbytes:(n+m)*bytes≤140737488355328) (hbase:base≤w.heap.size)
 (h:∀v' w',w'.ownsRow base e 1 v' (n+m) (xs++news)→w.grownBy w' v.ownBlock→(v'.ownBlock=v.ownBlock∨v'.ownBlock=some w.heap.size)→K (a.put o.dst v') w'):
 if Region.wanted o (yielded ops a.tmps)=true then Oper.wp P o a w K Q else E:=by
 have hw:Region.wanted o (yielded ops a.tmps)=true:=by simp[Region.wanted,hgd]
 rw[if_pos hw];exact tL w s x t ho base e i z bytes ht hi hz hsize hby hzs v n xs hs hown B A m c news hx hr h1 h63 hbytes hbase h
end
theorem Du (l:List UInt8):∀u∈bO l,u.oneCell'=true:=by
 intro u hu;simp only[bO,List.mem_map] at hu;obtain ⟨b,_,rfl⟩:=hu;rfl
theorem own_below {w w':World} {base B:Nat} {e:TypeId} {size n:Nat} {v:Value} {xs:List Value} (h:w.ownsRow base e size v n xs) (hb:Below B w w') (hB:w.heap.size≤B):w'.ownsRow base e size v n xs:=by
 rcases h.2 with ⟨rfl,h0⟩|⟨g',cap,cur,rfl,h1,h2,h3⟩
 ·exact ⟨h.1,.inl ⟨rfl,h0⟩⟩
 ·exact ⟨h.1,.inr ⟨g',cap,cur,rfl,h1,(hb.block _ (by have:=lt_of_heap h2;omega)).trans h2,h3⟩⟩
theorem aU {w:World} {base base':Nat} {e:TypeId} {size n:Nat} {v:Value} {xs:List Value} (h:w.ownsRow base e size v n xs) (hb:base'≤base):w.ownsRow base' e size v n xs:=by
 rcases h.2 with ⟨rfl,h0⟩|⟨g',cap,cur,rfl,h1,h3⟩
 ·exact ⟨h.1,.inl ⟨rfl,h0⟩⟩
 ·exact ⟨h.1,.inr ⟨g',cap,cur,rfl,by omega,h3⟩⟩
theorem bq {w:World} {base:Nat} {e:TypeId} {v:Value} {n:Nat} {xs:List Value} (h:w.ownsRow base e 1 v n xs):
 ∃A c,v= .slice A n c∧Sl w w.heap.size A n c xs∧(0<n→∃ad,A=some ad∧base≤ad.block):=by
 rcases h.2 with ⟨rfl,rfl⟩|⟨g,cap,cur,rfl,hb,hg,hnc,hcm,hcs,ht⟩
 ·exact ⟨none,0,rfl,⟨by simpa using h.1,Nat.le_refl _,by omega,fun h=>absurd h (by omega)⟩,fun h=>absurd h (by omega)⟩
 ·refine ⟨_,_,rfl,⟨by simpa using h.1,hnc,hcm,fun _=>⟨_,rfl,lt_of_heap hg,h.cells (g:=g) rfl⟩⟩,fun _=>⟨_,rfl,hb⟩⟩
end Go.Proofs.YtbhiklnljiehiaaGreat
namespace Go.Proofs.YtbhiklnljiehiaaGreat
def kr (l:List Bool) (j:Nat):Nat:=(l.getD j false).toNat
theorem fU (l:List Bool) (j:Nat):kr l j≤1:=by unfold kr;cases l.getD j false<;>simp
def fV (l:List Bool) (i:Nat):Nat:=
 128*kr l (8*i)+64*kr l (8*i+1)+32*kr l (8*i+2)+16*kr l (8*i+3)+8*kr l (8*i+4)+4*kr l (8*i+5)+2*kr l (8*i+6)+kr l (8*i+7)
theorem yx (l:List Bool) (i:Nat):fV l i<256:=by
 unfold fV;have h0:=fU l (8*i);have h1:=fU l (8*i+1);have h2:=fU l (8*i+2);have h3:=fU l (8*i+3);have h4:=fU l (8*i+4);have h5:=fU l (8*i+5);have h6:=fU l (8*i+6);have h7:=fU l (8*i+7);omega
def bJ (n:Nat):Nat:=(n+7)/8
def pack (l:List Bool):List UInt8:=(List.range (bJ l.length)).map fun i=>UInt8.ofNat (fV l i)
@[simp] theorem pN (l:List Bool):(pack l).length=bJ l.length:=by simp[pack]
theorem lm (l:List Bool) (i:Nat) (h:i<bJ l.length):(pack l)[i]? =some (UInt8.ofNat (fV l i)):=by
 simp[pack,h]
theorem yA (l:List Bool) (b:Bool):kr (l++ [b]) l.length=b.toNat:=by simp[kr]
theorem dL (l:List Bool) (b:Bool) (j:Nat) (h:j≠l.length):kr (l++ [b]) j=kr l j:=by
 unfold kr
 congr 1
 rcases Nat.lt_or_ge j l.length with hl|hl
 ·simp[List.getD_eq_getElem?_getD,List.getElem?_append_left hl]
 ·simp[List.getD_eq_getElem?_getD,List.getElem?_eq_none hl,List.getElem?_eq_none (show (l++ [b]).length≤j by simp;omega)]
theorem Cc (l:List Bool) (j:Nat) (h:l.length≤j):kr l j=0:=by
 unfold kr;simp[List.getD_eq_getElem?_getD,List.getElem?_eq_none h]
theorem mX (l:List Bool) (b:Bool) (i:Nat) (h:i≠l.length/8):fV (l++ [b]) i=fV l i:=by
 unfold fV;rw[dL l b _ (by omega),dL l b _ (by omega),dL l b _ (by omega),dL l b _ (by omega),
  dL l b _ (by omega),dL l b _ (by omega),dL l b _ (by omega),dL l b _ (by omega)]
theorem oN (l:List Bool) (b:Bool):fV (l++ [b]) (l.length/8)=fV l (l.length/8)+b.toNat*2 ^ (7-l.length%8):=by
 have key:∀j,kr (l++ [b]) j=kr l j+if j=l.length then b.toNat else 0:=by
  intro j;by_cases e:j=l.length
  ·subst e;rw[yA,Cc l _ (aN),if_pos rfl];omega
  ·rw[dL l b j e,if_neg e];omega
 unfold fV;simp only[key];have hq:=Nat.div_add_mod l.length 8;have hr:=Nat.mod_lt l.length (show 0<8 by omega);generalize l.length/8=q at*;generalize hr':l.length%8=r at*;generalize l.length=n at*;subst hq
 match r,hr with
 |0,_=>simp;omega
 |1,_=>simp;omega
 |2,_=>simp;omega
 |3,_=>simp;omega
 |4,_=>simp;omega
 |5,_=>simp;omega
 |6,_=>simp;omega
 |7,_=>simp;omega
theorem yB (l:List Bool):fV l (l.length/8)%2 ^ (8-l.length%8)=0:=by
 unfold fV;have key:∀j,l.length≤j→kr l j=0:=fun j h=>Cc l j h
 have hq:=Nat.div_add_mod l.length 8;have hr:=Nat.mod_lt l.length (show 0<8 by omega);generalize l.length/8=q at*;generalize hr':l.length%8=r at*;generalize l.length=n at*;subst hq
 match r,hr with
 |0,_=>simp only[key _ (show 8*q+0≤8*q+7 by omega),key _ (show 8*q+0≤8*q+6 by omega),key _ (show 8*q+0≤8*q+5 by omega),key _ (show 8*q+0≤8*q+4 by omega),key _ (show 8*q+0≤8*q+3 by omega),key _ (show 8*q+0≤8*q+2 by omega),key _ (show 8*q+0≤8*q+1 by omega),key _ (show 8*q+0≤8*q by omega)]
 |1,_=>simp only[key _ (show 8*q+1≤8*q+7 by omega),key _ (show 8*q+1≤8*q+6 by omega),key _ (show 8*q+1≤8*q+5 by omega),key _ (show 8*q+1≤8*q+4 by omega),key _ (show 8*q+1≤8*q+3 by omega),key _ (show 8*q+1≤8*q+2 by omega),key _ (show 8*q+1≤8*q+1 by omega)];omega
 |2,_=>simp only[key _ (show 8*q+2≤8*q+7 by omega),key _ (show 8*q+2≤8*q+6 by omega),key _ (show 8*q+2≤8*q+5 by omega),key _ (show 8*q+2≤8*q+4 by omega),key _ (show 8*q+2≤8*q+3 by omega),key _ (show 8*q+2≤8*q+2 by omega)];omega
 |3,_=>simp only[key _ (show 8*q+3≤8*q+7 by omega),key _ (show 8*q+3≤8*q+6 by omega),key _ (show 8*q+3≤8*q+5 by omega),key _ (show 8*q+3≤8*q+4 by omega),key _ (show 8*q+3≤8*q+3 by omega)];omega
 |4,_=>simp only[key _ (show 8*q+4≤8*q+7 by omega),key _ (show 8*q+4≤8*q+6 by omega),key _ (show 8*q+4≤8*q+5 by omega),key _ (show 8*q+4≤8*q+4 by omega)];omega
 |5,_=>simp only[key _ (show 8*q+5≤8*q+7 by omega),key _ (show 8*q+5≤8*q+6 by omega),key _ (show 8*q+5≤8*q+5 by omega)];omega
 |6,_=>simp only[key _ (show 8*q+6≤8*q+7 by omega),key _ (show 8*q+6≤8*q+6 by omega)];omega
 |7,_=>simp only[key _ (show 8*q+7≤8*q+7 by omega)];omega
theorem NQ (a b k:Nat) (ha:a%2 ^ (k+1)=0) (hb:b≤1):a|||b*2 ^ k=a+b*2 ^ k:=by
 have h1:b*2 ^ k<2 ^ (k+1):=by
  rw[Nat.pow_succ];have h2:0<2 ^ k:=Nat.two_pow_pos k;have:b*2 ^ k≤1*2 ^ k:=Nat.mul_le_mul_right _ hb;omega
 have h2:=Nat.two_pow_add_eq_or_of_lt h1 (a/2 ^ (k+1));have h3:2 ^ (k+1)*(a/2 ^ (k+1))=a:=Nat.mul_div_cancel' (Nat.dvd_of_mod_eq_zero ha);rw[h3] at h2;exact h2.symm
theorem AY (l:List Bool) (b:Bool) (h:l.length%8=0):pack (l++ [b])=pack l++ [UInt8.ofNat (b.toNat*2 ^ 7)]:=by
 apply List.ext_getElem?;intro i;have hl:bJ (l++ [b]).length=bJ l.length+1:=by simp[bJ];omega
 have hn:bJ l.length=l.length/8:=by simp[bJ];omega
 rcases Nat.lt_trichotomy i (bJ l.length) with hi|hi|hi
 ·rw[List.getElem?_append_left (by simpa using hi),lm _ _ (by omega),lm _ _ hi,mX _ _ _ (by omega)]
 ·subst hi;rw[lm _ _ (by omega),List.getElem?_append_right (by simp),hn,oN,h];have:fV l (l.length/8)=0:=by
   have:=yB l;rw[h] at this;have h2:=yx l (l.length/8);simp at this;omega
  simp[this,hn]
 ·rw[List.getElem?_eq_none (by simp[bJ] at hi ⊢;omega),List.getElem?_eq_none (by simp[bJ] at hi ⊢;omega)]
theorem Dw (l:List Bool) (b:Bool) (h:l.length%8≠0):
 pack (l++ [b])=(pack l).set (l.length/8) (UInt8.ofNat (fV l (l.length/8)|||b.toNat*2 ^ (7-l.length%8))):=by
 apply List.ext_getElem?;intro i;have hl:bJ (l++ [b]).length=bJ l.length:=by simp[bJ];omega
 have hn:bJ l.length=l.length/8+1:=by simp[bJ];omega
 have hr:=Nat.mod_lt l.length (show 0<8 by omega);rcases Nat.lt_or_ge i (bJ l.length) with hi|hi
 ·rw[lm _ _ (by omega),List.getElem?_set];by_cases e:l.length/8=i
  ·subst e;rw[if_pos rfl,if_pos (by simp;omega),oN,NQ _ _ _ (by
    have:=yB l;rw[show 7-l.length%8+1=8-l.length%8 by omega];exact this) (by cases b<;>simp)]
  ·rw[if_neg e,lm _ _ hi,mX _ _ _ (by omega)]
 ·rw[List.getElem?_eq_none (by simp[bJ] at hi ⊢;omega),List.getElem?_eq_none (by simp[bJ] at hi ⊢;omega)]
def bitsOf (v n:Nat):List Bool:=(List.range n).map fun k=>decide (v/2 ^ (n-1-k)%2=1)
@[simp] theorem AZ (v n:Nat):(bitsOf v n).length=n:=by simp[bitsOf]
def val (l:List Bool):Nat:=l.foldl (fun v b=>2*v+b.toNat) 0
theorem NR (l:List Bool) (b:Bool):val (l++ [b])=2*val l+b.toNat:=by simp[val]
theorem Rp (l:List Bool):∀a,l.foldl (fun v b=>2*v+b.toNat) a=a*2 ^ l.length+val l:=by
 induction l with
 |nil=>intro a;simp[val]
 |cons b l ih=>
  intro a;unfold val;simp only[List.foldl_cons,List.length_cons];rw[ih,ih (2*0+b.toNat),Nat.pow_succ,Nat.add_mul,←Nat.add_assoc];simp only[Nat.mul_zero,Nat.zero_add];rw[Nat.mul_comm 2 a,Nat.mul_assoc,Nat.mul_comm 2 (2 ^ l.length)]
theorem NS (b:Bool) (l:List Bool):val (b::l)=b.toNat*2 ^ l.length+val l:=by
 show l.foldl _ (2*0+b.toNat)=_
 rw[Rp];simp
theorem pO (l:List Bool):val l<2 ^ l.length:=by
 induction l with
 |nil=>simp[val]
 |cons b l ih=>
  rw[NS,List.length_cons,Nat.pow_succ];have:b.toNat*2 ^ l.length≤1*2 ^ l.length:=Nat.mul_le_mul_right _ (by cases b<;>simp);omega
def xq (bs:List UInt8) (j:Nat):Bool:=decide ((bs.getD (j/8) 0).toNat/2 ^ (7-j%8)%2=1)
def unpack (bs:List UInt8):List Bool:=(List.range (8*bs.length)).map (xq bs)
@[simp] theorem QN (bs:List UInt8):(unpack bs).length=8*bs.length:=by simp[unpack]
def aF (bs:List UInt8) (pos width:Nat):List Bool:=(List.range width).map fun k=>xq bs (pos+k)
@[simp] theorem fq (bs:List UInt8) (p n:Nat):(aF bs p n).length=n:=by simp[aF]
theorem Ff (bs:List UInt8) (p n:Nat):aF bs p (n+1)=aF bs p n++ [xq bs (p+n)]:=by simp[aF,List.range_succ]
end Go.Proofs.YtbhiklnljiehiaaGreat
namespace Go.Proofs.YtbhiklnljiehiaaGreat
def mY (pos:Nat):Nat:=(8-pos%8)%8
def fZ (bs:List UInt8):Nat→Bool→Nat→List Nat→Sum Nat (List Nat × Nat)
 |_,false,pos,acc=> .inr (acc,pos)
 |0,true,_,_=> .inl 9
 |f+1,true,pos,acc=>
  if 8*bs.length<pos+12 then .inl 5
  else if val (aF bs pos 12)%2048=0∨63≤acc.length then .inl 9
  else fZ bs f (decide (val (aF bs pos 12)/2048=1)) (pos+12) (acc++ [val (aF bs pos 12)%2048])
def jT (bs:List UInt8):Sum Nat (List Nat × Nat)→Sum Nat (List Nat × Nat)
 | .inl er=> .inl er
 | .inr (ls,p)=>if val (aF bs p (mY p))=0 then .inr (ls,p+mY p) else .inl 9
def rR (bs:List UInt8) (more:Bool) (pos:Nat):Sum Nat (List Nat × Nat):=jT bs (fZ bs 64 more pos [])
def splitBy:List Nat→List UInt8→List (List UInt8)
 | [],d=> [d]
 |n::l,d=>d.take n::splitBy l (d.drop n)
def ku (ls:List Nat) (d:List UInt8):Sum Nat (List (List UInt8)):=
 if d.length≤ls.sum then .inl 5 else if 32767<d.length then .inl 9 else .inr (splitBy ls d)
theorem pP (bs:List UInt8):∀(f:Nat) (more:Bool) (pos:Nat) (acc ls:List Nat) (p:Nat),fZ bs f more pos acc= .inr (ls,p)→acc.length≤63→(∀n∈acc,1≤n∧n≤2047)→ls.length≤63∧∀n∈ls,1≤n∧n≤2047
 |_,false,pos,acc,ls,p,h,h1,h2=>by
  simp only[fZ] at h;cases h;exact ⟨h1,h2⟩
 |0,true,_,_,_,_,h,_,_=>by simp[fZ] at h
 |f+1,true,pos,acc,ls,p,h,h1,h2=>by
  simp only[fZ] at h;split at h
  ·cases h
  ·split at h
   ·cases h
   ·rename_i hb;refine pP bs f _ _ _ ls p h (by simp;omega) (fun n hn=> ?_);rw[List.mem_append] at hn;rcases hn with hn|hn
    ·exact h2 n hn
    ·rw[List.mem_singleton] at hn;omega
theorem Dx {bs:List UInt8} {more:Bool} {pos:Nat} {ls:List Nat} {p:Nat} (h:rR bs more pos= .inr (ls,p)):ls.length≤63∧∀n∈ls,1≤n∧n≤2047:=by
 unfold rR jT at h;split at h
 ·cases h
 ·rename_i ls' p' hr;split at h
  ·cases h;exact pP bs _ _ _ _ _ _ hr (by simp) (by simp)
  ·cases h
theorem lq (ls:List Nat):∀d,(splitBy ls d).length=ls.length+1:=by
 induction ls with
 |nil=>intro d;rfl
 |cons n l ih=>intro d;simp[splitBy,ih]
theorem wF (ls:List Nat):∀(d:List UInt8) (i n:Nat),ls[i]? =some n→(splitBy ls d)[i]? =some ((d.drop (ls.take i).sum).take n):=by
 induction ls with
 |nil=>intro d i n h;simp at h
 |cons m l ih=>
  intro d i n h;cases i with
  |zero=>simp at h;subst h;simp[splitBy]
  |succ i=>
   simp at h;have:=ih (d.drop m) i n h;simp[splitBy,this]
theorem tN (ls:List Nat):∀(d:List UInt8),(splitBy ls d)[ls.length]? =some (d.drop ls.sum):=by
 induction ls with
 |nil=>intro d;simp[splitBy]
 |cons m l ih=>
  intro d;have:=ih (d.drop m);simp[splitBy,this]
end Go.Proofs.YtbhiklnljiehiaaGreat
namespace Go.Proofs.YtbhiklnljiehiaaGreat
theorem ve (bs d:List UInt8) (j:Nat) (h:j<8*bs.length):xq (bs++d) j=xq bs j:=by
 unfold xq;rw[List.getD_eq_getElem?_getD,List.getD_eq_getElem?_getD,List.getElem?_append_left (by omega)]
theorem rT (bs d:List UInt8) (p k:Nat) (h:p+k≤8*bs.length):aF (bs++d) p k=aF bs p k:=by
 unfold aF;apply List.map_congr_left;intro x hx;rw[List.mem_range] at hx;exact ve _ _ _ (by omega)
theorem Lp (bs:List UInt8) (p k:Nat) (l:List Bool) (hl:l.length=k) (h:∀i,i<k→xq bs (p+i)=l.getD i false):aF bs p k=l:=by
 apply List.ext_getElem?;intro i;unfold aF;rw[List.getElem?_map];by_cases hi:i<k
 ·rw[List.getElem?_range hi,List.getElem?_eq_getElem (by omega)];have:=h i hi;simp only[Option.map_some,this,List.getD_eq_getElem?_getD,List.getElem?_eq_getElem (show i<l.length by omega),Option.getD_some]
 ·rw[List.getElem?_eq_none (by simp;omega),List.getElem?_eq_none (by omega)];rfl
theorem NT (l:List Bool) (j:Nat):decide (kr l j=1)=l.getD j false:=by
 unfold kr;cases l.getD j false<;>simp
theorem Lr (l:List Bool) (j:Nat):fV l (j/8)/2 ^ (7-j%8)%2=kr l j:=by
 have hq:=Nat.div_add_mod j 8;have hr:=Nat.mod_lt j (show 0<8 by omega);generalize j/8=q at*;generalize j%8=r at*;subst hq;unfold fV;have h0:=fU l (8*q);have h1:=fU l (8*q+1);have h2:=fU l (8*q+2);have h3:=fU l (8*q+3);have h4:=fU l (8*q+4);have h5:=fU l (8*q+5);have h6:=fU l (8*q+6);have h7:=fU l (8*q+7)
 match r,hr with
 |0,_=>simp only[Nat.add_zero];omega
 |1,_=>omega
 |2,_=>omega
 |3,_=>omega
 |4,_=>omega
 |5,_=>omega
 |6,_=>omega
 |7,_=>simp;omega
theorem Ls (l:List Bool) (j:Nat) (h:j<8*bJ l.length):xq (pack l) j=l.getD j false:=by
 unfold xq;rw[List.getD_eq_getElem?_getD,lm l _ (by omega),Option.getD_some,UInt8.toNat_ofNat',Nat.mod_eq_of_lt (yx l _),Lr,NT]
theorem Fg (l:List Bool) (d:List UInt8) (p k:Nat) (h:p+k≤l.length):aF (pack l++d) p k=(l.drop p).take k:=by
 have hn:l.length≤8*bJ l.length:=by unfold bJ;omega
 rw[rT _ _ _ _ (by rw[pN];omega)];refine Lp _ _ _ _ (by simp;omega) (fun i hi=> ?_);rw[Ls _ _ (by omega)];simp[List.getD_eq_getElem?_getD,hi]
end Go.Proofs.YtbhiklnljiehiaaGreat
namespace Go.Proofs.YtbhiklnljiehiaaGreat
def bb (b:Bool):UInt8:=if b then 1 else 0
def bbs (l:List Bool):List UInt8:=l.map bb
@[simp] theorem VC (l:List Bool):(bbs l).length=l.length:=by simp[bbs]
def NU (v n k:Nat):List UInt8:=List.replicate (n-k) 0++(bbs (bitsOf v n)).drop (n-k)
@[simp] theorem QO (v n k:Nat) (_h:k≤n):(NU v n k).length=n:=by simp[NU]
def NV (l:List Bool) (k:Nat):List UInt8:=(List.range (bJ l.length)).map fun i=>UInt8.ofNat (fV (l.take k) i)
@[simp] theorem QR (l:List Bool) (k:Nat):(NV l k).length=bJ l.length:=by simp[NV]
end Go.Proofs.YtbhiklnljiehiaaGreat
