/- Maps with numbers for keys, whose elements are values as they lie. amrecv: the receiver's memory. amrecv: none, place, has, count, complete, from, must. amrecv: complete, from, waits, goes. ampdu.Cut of a range within the PDU. A region that draws its order: loads first, then stores to cells that it loads: what the loads read is asked only as long as a load may still come up. 'append(s, make([]T, k)...)' onto a row of its own. -/
import Derived.Test.YtiecgfahidpldaaGreatM0aa
import Derived.Test.YtiecgfahidpldaaGreatM0ae
import Derived.Test.YtiecgfahidpldaaGreatM0af
import Derived.Maps.OwnSet
import Derived.Deep.RegionHeld3
import Derived.Deep.DeepCutAuto
import Derived.BigRegion
import Derived.Sort.CutIn
import Derived.Lib.AppendZerosOnto
namespace Go.Proofs.YtiecgfahidpldaaGreat
section
open Go.RowKit Go.Maps
def xL (v:Value):Option (DataW Value × List MemPlace):=some (.held v,[])
def bY (P:Program) (k:TypeId) (w:World) (b n:Nat) (F:Nat→Option Value):Prop:=
 ∃D:DataW Value,w.ownsMap P k xL b n D∧IsMap D∧∀j:Nat,j≤9223372036854775807→Maps.has D (.int .i64 j)=(F j).isSome∧∀v,F j=some v→∀z,D.atKey (.int .i64 j) z= .held v
def pM (F:Nat→Option Value) (k:Nat) (v:Option Value):Nat→Option Value:=fun j=>if j=k then v else F j
section
variable {P:Program} {t k e:TypeId} {w w':World} {b n:Nat} {F:Nat→Option Value}
theorem bY.made (P:Program) (k:TypeId) (w:World):bY P k (w.alloc (.map #[] 0)) w.heap.size 0 (fun _=>none):=
 ⟨.map [],World.ownsMap_made w P k xL,isMap_empty,fun j _=>⟨rfl,fun v h=>by cases h⟩⟩
theorem bY.same (h:bY P k w b n F) (hs:w'.heap[b]? =w.heap[b]?):bY P k w' b n F:=by
 obtain ⟨D,⟨es,clock,hb,hr⟩,h2⟩:=h;exact ⟨D,⟨es,clock,hs.trans hb,hr⟩,h2⟩
theorem pN {j:Nat} (h:j≤9223372036854775807):(Lit.int .i64 (j:Int)).wf=true:=by
 simp[Lit.wf,IntKind.min,IntKind.max,IntKind.bits,IntKind.signed];omega
theorem bY.drop (h:bY P k w b n F) (hk:P.underlying k=some (.int .i64)) (ht:P.underlying t=some (.map k e)) {j:Nat} (hj:j≤9223372036854775807) (ty:TypeId):
 ∃w',(Builtin.delete_ #[t,k] ty #[.map (some b),.int .i64 j]).run P w= .ok (.tuple #[]) w'∧bY P k w' b n (pM F j none)∧w.grownBy w' (some b):=by
 obtain ⟨D,h1,hm,h2⟩:=h;obtain ⟨w',hr,h3,h4⟩:=h1.drop (int_keyed hk) ht (keyOf_int_mk hk (pN hj)) ty;refine ⟨w',hr,⟨_,h3,hm.del _,fun i hi=> ?_⟩,h4.grown⟩;unfold pM;by_cases hij:i=j
 ·subst hij;simp[Maps.has_del_same]
 ·rw[if_neg hij];have hne:(Lit.int .i64 (i:Int))≠Lit.int .i64 (j:Int):=by
   intro hh;injection hh with _ hh
   omega
  obtain ⟨a,b⟩:=h2 i hi;exact ⟨by rw[Maps.has_del_other hne,a],fun v hv z=>by rw[Maps.atKey_del_other hne,b v hv]⟩
theorem bY.store (h:bY P k w b n F) (hk:P.underlying k=some (.int .i64)) (ht:P.underlying t=some (.map k e)) (hn:n<maxLen) {j:Nat} (hj:j≤9223372036854775807) (val:Value):
 ∃w',(Instr.mapUpdate t (.map (some b)) (.int .i64 j) val).run P w= .ok () w'∧bY P k w' b (n+1) (pM F j (some val))∧w.grownBy w' (some b):=by
 obtain ⟨D,h1,hm,h2⟩:=h;obtain ⟨w',hr,h3,h4⟩:=h1.store (int_keyed hk) ht hn (keyOf_int_mk hk (pN hj)) (val:=val) (d:= .held val) (ps:= []) rfl;have hkl:WideAt.IsKeyLit (.int .i64 (j:Int)):=(int_keyed (P:=P) hk).key (keyOf_int_mk hk (pN hj));refine ⟨w',hr,⟨_,h3,hm.put _ _,fun i hi=> ?_⟩,h4.grown⟩;unfold pM;by_cases hij:i=j
 ·subst hij;rw[if_pos rfl];exact ⟨by rw[Maps.has_put_same hm hkl];rfl,fun v hv z=>by cases hv;exact Maps.atKey_put_same hm hkl _ _⟩
 ·rw[if_neg hij];have hne:(Lit.int .i64 (i:Int))≠Lit.int .i64 (j:Int):=by
   intro hh;injection hh with _ hh
   omega
  obtain ⟨a,b⟩:=h2 i hi;exact ⟨by rw[Maps.has_put_other hne,a],fun v hv z=>by rw[Maps.atKey_put_other hne,b v hv]⟩
end
section
variable {P:Program} (w:World) {ops:Array Oper} {rest:List Oper} {o:Oper} {a:Act} {Q:Exit→Act→World→Prop}
theorem jG (hg:o.guard=none) (m x:Operand) (t k:TypeId) (hop:o.op=Op.call {callee:=Callee.builtin Builtin.delete,args:= #[m,x],argTypes:= #[t,k]}) (e:TypeId) (hk:P.underlying k=some (.int .i64)) (ht:P.underlying t=some (.map k e))
 (b n:Nat) (F:Nat→Option Value) (hm:a.eval m= .map (some b)) (hown:bY P k w b n F) (j:Nat) (hx:a.eval x= .int .i64 j) (hj:j≤9223372036854775807)
 (hK:∀w',bY P k w' b n (pM F j none)→w.grownBy w' (some b)→wpList P ops Q rest (a.put o.dst (.tuple #[])) w'):wpList P ops Q (o::rest) a w:=by
 refine wpList_plain hg fun K' hK'=> ?_
 obtain ⟨w',hrun,r1,r2⟩:=hown.drop hk ht hj o.type;unfold Oper.wp;simp[execOp,hop,resolve,invoke,builtin,hm,hx,hrun,Result.andThen];exact hK' _ _ (hK w' r1 r2)
theorem kg (hg:o.guard=none) (m x v:Operand) (t:TypeId) (hop:o.op=Op.mapUpdate t m x v) (k e:TypeId) (hk:P.underlying k=some (.int .i64)) (ht:P.underlying t=some (.map k e))
 (b n:Nat) (F:Nat→Option Value) (hm:a.eval m= .map (some b)) (hown:bY P k w b n F) (hn:n<maxLen) (j:Nat) (hx:a.eval x= .int .i64 j) (hj:j≤9223372036854775807) (val:Value) (hv:a.eval v=val)
 (hK:∀w',bY P k w' b (n+1) (pM F j (some val))→w.grownBy w' (some b)→wpList P ops Q rest (a.put o.dst undef) w'):wpList P ops Q (o::rest) a w:=by
 refine wpList_plain hg fun K' hK'=> ?_
 obtain ⟨w',hrun,r1,r2⟩:=hown.store hk ht hn hj val;unfold Oper.wp;simp[execOp,hop,hm,hx,hv,hrun,Result.andThen];exact hK' _ _ (hK w' r1 r2)
end
end
section
open Go.RowKit Go.Maps
theorem jH:Tryz.prog.underlying 31=some (.map 3 86):=by kernel_rfl
theorem jI:Tryz.prog.underlying 3=some (.int .i64):=by kernel_rfl
theorem tu (w:World):(zeroValue 86).run Tryz.prog w= .ok (.pointer none) w:=by kernel_rfl
section
variable {P:Program} {t k e:TypeId} {w w':World} {b n:Nat} {F:Nat→Option Value}
theorem bY.EI (h:bY P k w b n F) (hk:P.underlying k=some (.int .i64)) (ht:P.underlying t=some (.map k e)) {z:Value} (hz:(zeroValue e).run P w= .ok z w) {j:Nat} (hj:j≤9223372036854775807):
 (Instr.lookup t (.map (some b)) (.int .i64 j) false).run P w= .ok ((F j).getD z) w:=by
 obtain ⟨D,h1,_,h2⟩:=h;obtain ⟨v,ps,hr,hv⟩:=h1.lookup (zd:= .held z) (zp:= []) (int_keyed hk) ht hz rfl (keyOf_int_mk hk (pN hj));obtain ⟨e1,e2⟩:=h2 j hj;rw[hr];simp only[xL,Option.some.injEq,Prod.mk.injEq] at hv;cases hF:F j with
 |none=>
  rw[hF] at e1;have:=Maps.atKey_of_not_has (by simpa using e1) (.held z);rw[this] at hv;cases hv.1;rfl
 |some u=>
  rw[e2 u hF] at hv;cases hv.1;rfl
end
def jT (l:List Fl):List Value:=l.flatMap (fun f=> [.bool f.1,.bool f.2.1,.bool f.2.2])
theorem eX (f:Fl) (l:List Fl):jT (f::l)= .bool f.1:: .bool f.2.1:: .bool f.2.2::jT l:=by simp[jT]
theorem tC (l:List Fl):(jT l).length=l.length*3:=by
 induction l with
 |nil=>rfl
 |cons r t ih=>
  rw[eX];simp only[List.length_cons,ih];omega
theorem zX (a b:List Fl):jT (a++b)=jT a++jT b:=by simp[jT]
theorem kX:∀(l:List Fl) (j:Nat) (f:Fl),l[j]? =some f→(jT l)[j*3]? =some (.bool f.1)∧(jT l)[j*3+1]? =some (.bool f.2.1)∧(jT l)[j*3+2]? =some (.bool f.2.2)
 | [],j,r,h=>by simp at h
 |x::t,0,r,h=>by
  simp at h;subst h;rw[eX];exact ⟨rfl,rfl,rfl⟩
 |x::t,j+1,r,h=>by
  have ih:=kX t j r (by simpa using h);rw[eX,show (j+1)*3=j*3+1+1+1 by omega];exact ih
theorem uD:∀(l:List Fl) (j:Nat) (f:Fl),j<l.length→(((jT l).set (j*3) (.bool f.1)).set (j*3+1) (.bool f.2.1)).set (j*3+2) (.bool f.2.2)=jT (l.set j f)
 | [],j,f,h=>by simp at h
 |x::t,0,f,_=>by
  rw[eX];show _=jT (f::t)
  rw[eX];rfl
 |x::t,j+1,f,h=>by
  have ih:=uD t j f (by simpa using h);rw[eX,List.set_cons_succ,eX,←ih,show (j+1)*3=j*3+1+1+1 by omega];rfl
structure fA (w:World) (A:Option Addr) (n c:Nat) (l:List Fl):Prop where
 len:l.length=n
 cap:n≤c
 mx:c≤9223372036854775807
 at_:0<n→∃g o,A=some ⟨g,o,none⟩∧g<w.heap.size∧∀j f,l[j]? =some f→w.cell? ⟨g,o+j*3,none⟩=some (.bool f.1)∧w.cell? ⟨g,o+j*3+1,none⟩=some (.bool f.2.1)∧w.cell? ⟨g,o+j*3+2,none⟩=some (.bool f.2.2)
section
variable {w w':World} {A:Option Addr} {n c:Nat} {l:List Fl}
theorem fA.below (h:fA w A n c l) (hb:Below w.heap.size w w'):fA w' A n c l:=
 ⟨h.len,h.cap,h.mx,fun hn=>by
  obtain ⟨g,o,e,hg,hc⟩:=h.at_ hn;refine ⟨g,o,e,Nat.lt_of_lt_of_le hg hb.size,fun j f hj=> ?_⟩;obtain ⟨a,b,d⟩:=hc j f hj;exact ⟨(hb.cell (p:=⟨g,_,none⟩) hg).trans a,(hb.cell (p:=⟨g,_,none⟩) hg).trans b,(hb.cell (p:=⟨g,_,none⟩) hg).trans d⟩⟩
theorem fA.cr {base:Nat} {v:Value} (h:w.ownsRow base 101 3 v l.length (jT l)):∃A c,v= .slice A l.length c∧fA w A l.length c l:=by
 rcases h.2 with ⟨rfl,hn⟩|⟨g,cap,cur,rfl,hb,hg,hnc,hcm,hcs,ht⟩
 ·have:=List.eq_nil_of_length_eq_zero hn;subst this;exact ⟨none,0,rfl,rfl,Nat.zero_le _,by omega,fun h=>absurd h (by simp)⟩
 ·refine ⟨_,_,rfl,⟨rfl,hnc,by unfold maxLen at hcm;omega,fun _=>⟨g,0,rfl,lt_of_heap hg,fun j f hj=> ?_⟩⟩⟩;have hc:=fun j u (hu:(jT l)[j]? =some u)=>h.cells (g:=g) rfl j u hu
  obtain ⟨g1,g2,g3⟩:=kX l j f hj;have k1:=hc _ _ g1;have k2:=hc _ _ g2;have k3:=hc _ _ g3;rw[Addr.add_lit] at k1 k2 k3;rw[Nat.zero_add] at k1 k2 k3;rw[Nat.zero_add];exact ⟨k1,k2,k3⟩
theorem fA.drop {g o k:Nat} (h:fA w (some ⟨g,o,none⟩) n c l) (hk:k<n):fA w (some ⟨g,o+k*3,none⟩) (n-k) (c-k) (l.drop k):=by
 have hl:=h.len;have hc:=h.cap;have hm:=h.mx;refine ⟨by rw[List.length_drop];omega,by omega,by omega,fun _=> ?_⟩;obtain ⟨g',o',e,hb,hcl⟩:=h.at_ (by omega);cases e;refine ⟨g,_,rfl,hb,fun j f hj=> ?_⟩;rw[List.getElem?_drop] at hj;have:=hcl _ f hj
 rwa [show o+(k+j)*3=o+k*3+j*3 by omega] at this
end
def aJ (p:Sp):Int:=match p.size with
 |none=> -1
 |some k=>(k:Int)
structure gG (w:World) (b:Nat) (p:Sp) (vf vd:Value):Prop where
 blk:av w b 90 #[vf,vd,.int .i64 (aJ p)]
 fr:w.ownsRow 0 101 3 vf p.fl.length (jT p.fl)
 dr:w.ownsRow 0 5 1 vd p.da.length (bE p.da)
structure kP (p:Sp):Prop where
 ll:p.da.length=p.fl.length
 le:p.fl.length≤32767
 sz:∀k,p.size=some k→k≤32767
theorem kP.i {p:Sp} (h:kP p): -1≤aJ p∧aJ p≤32767:=by
 unfold aJ;cases hs:p.size with
 |none=>simp
 |some k=>
  have:=h.sz k hs;dsimp only;omega
def vM (c:Cf) (M:Nat) (vo:Value) (st:Rc):Array Value:=
 #[.int .i64 c.OA,.int .i64 c.byte,.int .i64 c.timer,.int .i64 c.reorder,.int .i64 c.bT,.int .i64 c.Ep,.int .i64 c.cap,.map (some M),.int .i64 (st.next:Nat),.int .i64 (st.status:Nat),.int .i64 (st.high:Nat),.bool st.ro,.int .i64 (st.bX:Nat),.int .i64 st.exp,.bool st.due,.int .i64 st.iZ,.int .i64 st.now,vo,.bool st.sm]
structure bO (w:World) (T:Nat→Nat) (g M n:Nat) (c:Cf) (st:Rc) (vo:Value):Prop where
 blk:av w g 33 (vM c M vo st)
 tg:T g=1
 tM:T M=2
 lt:∀k,T k≠0→k<w.heap.size
 CS:w.ownsRow 0 5 1 vo st.op.length (bE st.op)
 od:∀k,vo.ownBlock=some k→T k=3
 mp:∃F,bY Tryz.prog 3 w M n F∧∀k,(st.m k=none→F k=none)∧∀p,st.m k=some p→∃b vf vd,F k=some (.pointer (some ⟨b,0,none⟩))∧gG w b p vf vd∧T b=3*k+4∧(∀j,vf.ownBlock=some j→T j=3*k+5)∧(∀j,vd.ownBlock=some j→T j=3*k+6)
def MT (T:Nat→Nat) (k:Nat) (_:Obj):Prop:=T k≠0
structure aM (st:Rc):Prop where
 n1:st.next≤1023
 n2:st.status≤1023
 n3:st.high≤1023
 n4:st.bX≤1023
 m:∀k p,st.m k=some p→k≤1023∧aI st k<512∧kP p
 op:st.op.length≤9000
 t1:0≤st.now
 t2:st.now≤9223372036854775807
section
variable {w w':World} {T:Nat→Nat} {g M n:Nat} {c:Cf} {st:Rc} {vo:Value}
theorem aN {base size m:Nat} {e:TypeId} {v:Value} {xs:List Value} (h:w.ownsRow base e size v m xs) (hk:∀k,v.ownBlock=some k→w'.heap[k]? =w.heap[k]?):w'.ownsRow base e size v m xs:=by
 rcases h.2 with ⟨rfl,h0⟩|⟨g',cap,cur,rfl,h1,h2,h3⟩
 ·exact ⟨h.1,.inl ⟨rfl,h0⟩⟩
 ·exact ⟨h.1,.inr ⟨g',cap,cur,rfl,h1,(hk g' rfl).trans h2,h3⟩⟩
theorem gG.stay {b:Nat} {p:Sp} {vf vd:Value} (h:gG w b p vf vd) (h0:w'.heap[b]? =w.heap[b]?) (h1:∀k,vf.ownBlock=some k→w'.heap[k]? =w.heap[k]?) (h2:∀k,vd.ownBlock=some k→w'.heap[k]? =w.heap[k]?):gG w' b p vf vd:=
 ⟨h0.trans h.blk,aN h.fr h1,aN h.dr h2⟩
theorem bO.stay (h:bO w T g M n c st vo) (hk:∀k,T k≠0→w'.heap[k]? =w.heap[k]?):bO w' T g M n c st vo:=by
 obtain ⟨F,h1,h2⟩:=h.mp;refine ⟨(hk g (by rw[h.tg];omega)).trans h.blk,h.tg,h.tM,fun k hf=> ?_,aN h.CS fun k e=>hk k (by rw[h.od k e];omega),h.od,F,h1.same (hk M (by rw[h.tM];omega)),fun k=>⟨(h2 k).1,fun p hp=> ?_⟩⟩
 ·have h3:=h.lt k hf;have h4:=hk k hf;rw[Array.getElem?_eq_getElem h3] at h4;exact lt_of_heap h4
 ·obtain ⟨b,vf,vd,e,hs,t1,t2,t3⟩:=(h2 k).2 p hp;exact ⟨b,vf,vd,e,hs.stay (hk b (by omega)) (fun j hj=>hk j (by rw[t2 j hj];omega)) (fun j hj=>hk j (by rw[t3 j hj];omega)),t1,t2,t3⟩
theorem bO.below (h:bO w T g M n c st vo) (hb:Below w.heap.size w w'):bO w' T g M n c st vo:=h.stay fun k hk=>hb.block k (h.lt k hk)
theorem bO.drew (h:bO w T g M n c st vo):bO w.drew T g M n c st vo:=h.below (Below.refl _ w).drew
theorem bO.drewN (h:bO w T g M n c st vo) (k:Nat):bO (w.drewN k) T g M n c st vo:=h.below ((Below.refl _ w).drewN k)
theorem bO.alloc (h:bO w T g M n c st vo) (o:Obj):bO (w.alloc o) T g M n c st vo:=h.below ((Below.refl _ w).alloc (Nat.le_refl _) o)
theorem bO.far {Q:Nat→Obj→Prop} (h:bO w T g M n c st vo) (hk:Kept Q w w') (hm:∀k o,Q k o→T k=0):bO w' T g M n c st vo:=
 h.stay fun k hf=>by
  have h1:=h.lt k hf;have h2:w.heap[k]? =some w.heap[k]:=Array.getElem?_eq_getElem h1;rw[h2];exact hk.same k _ h2 fun hM=>hf (hm k _ hM)
theorem bO.put (h:bO w T g M n c st vo) (i:Nat) (u:Value) {st':Rc} (he:(vM c M vo st).setIfInBounds i u=vM c M vo st') (hm:st'.m=st.m) (ho:st'.op=st.op):bO (w.setCell ⟨g,i,none⟩ u) T g M n c st' vo:=by
 have hk:∀k,T k≠1→(w.setCell ⟨g,i,none⟩ u).heap[k]? =w.heap[k]? :=fun k hk=>Below.heap_setCell w ⟨g,i,none⟩ u k (fun e=>by have e2:k=g:=e;rw[e2] at hk;exact hk h.tg)
 obtain ⟨F,h1,h2⟩:=h.mp;refine ⟨?_,h.tg,h.tM,fun k hf=>by simpa[World.setCell] using h.lt k hf,?_,h.od,F,h1.same (hk M (by rw[h.tM];omega)),fun k=>⟨by rw[hm];exact (h2 k).1,fun p hp=> ?_⟩⟩
 ·have:=h.blk.aF i u;rw[he] at this;exact this
 ·rw[ho];exact aN h.CS fun k e=>hk k (by rw[h.od k e];omega)
 ·rw[hm] at hp;obtain ⟨b,vf,vd,e,hs,t1,t2,t3⟩:=(h2 k).2 p hp;exact ⟨b,vf,vd,e,hs.stay (hk b (by omega)) (fun j hj=>hk j (by rw[t2 j hj];omega)) (fun j hj=>hk j (by rw[t3 j hj];omega)),t1,t2,t3⟩
theorem bO.cell (h:bO w T g M n c st vo) (i:Nat):w.cell? ⟨g,i,none⟩=(vM c M vo st)[i]? :=h.blk.cell i
theorem bO.cells (h:bO w T g M n c st vo):w.cell? ⟨g,3,none⟩=some (.int .i64 c.reorder)∧w.cell? ⟨g,4,none⟩=some (.int .i64 c.bT)∧w.cell? ⟨g,7,none⟩=some (.map (some M))∧w.cell? ⟨g,8,none⟩=some (.int .i64 (st.next:Nat))∧w.cell? ⟨g,9,none⟩=some (.int .i64 (st.status:Nat))∧w.cell? ⟨g,10,none⟩=some (.int .i64 (st.high:Nat))∧
 w.cell? ⟨g,11,none⟩=some (.bool st.ro)∧w.cell? ⟨g,12,none⟩=some (.int .i64 (st.bX:Nat))∧w.cell? ⟨g,13,none⟩=some (.int .i64 st.exp)∧w.cell? ⟨g,14,none⟩=some (.bool st.due)∧w.cell? ⟨g,15,none⟩=some (.int .i64 st.iZ)∧w.cell? ⟨g,16,none⟩=some (.int .i64 st.now)∧w.cell? ⟨g,17,none⟩=some vo∧w.cell? ⟨g,18,none⟩=some (.bool st.sm):=
 ⟨h.blk.cell 3,h.blk.cell 4,h.blk.cell 7,h.blk.cell 8,h.blk.cell 9,h.blk.cell 10,h.blk.cell 11,h.blk.cell 12,h.blk.cell 13,h.blk.cell 14,h.blk.cell 15,h.blk.cell 16,h.blk.cell 17,h.blk.cell 18⟩
end
end
section
open Go.RowKit Go.Shelf
attribute [local go_sem] Oper.semAt_some
theorem iC (n:Int):bits .and .i64 n 1023=n%1024:=by
 have h127:(BitVec.ofInt 64 1023).toNat=2 ^ 10-1:=by decide
 have key:(BitVec.ofInt 64 n&&& BitVec.ofInt 64 1023).toNat=(n%((2 ^ 64:Nat):Int)).toNat%2 ^ 10:=by
  rw[BitVec.toNat_and,BitVec.toNat_ofInt,h127,Nat.and_two_pow_sub_one_eq_mod]
 show IntKind.i64.wrap ((BitVec.ofInt 64 n&&& BitVec.ofInt 64 1023).toNat:Nat)=n%1024
 rw[key,IntKind.wrap_i64];omega
section
variable {w w':World} {T:Nat→Nat} {g M n:Nat} {c:Cf} {st:Rc} {vo:Value}
set_option maxRecDepth 100000 in
theorem fU (h:bO w T g M n c st vo):Calls Tryz.prog 31 #[.pointer (some ⟨g,0,none⟩)] w fun e w'=>e= .returned (.bool false)∧w=w':=by
 have x7:=h.cells.2.2.1;have q:∀(w:World) (r:Option Nat),(binOp .eql 31 (.map r) (.map none)).run Tryz.prog w= .ok (.bool r.isNone) w:=fun w r=>run_eql_map_nil w _ _ _ r jH
 clear h;go_enter Tryz.func31,Tryz.ntmps31;go_wp2;go_ret;exact ⟨rfl,rfl⟩
theorem vN (w:World):Calls Tryz.prog 31 #[.pointer none] w fun e w'=>e= .returned (.bool true)∧w=w':=by
 go_enter Tryz.func31,Tryz.ntmps31;go_wp2;go_ret;exact ⟨rfl,rfl⟩
set_option maxRecDepth 100000 in
theorem tF (g:Nat) (w:World) (h:w.cell? ⟨g,7,none⟩=some (.map none)):Calls Tryz.prog 31 #[.pointer (some ⟨g,0,none⟩)] w fun e w'=>e= .returned (.bool true)∧w=w':=by
 have q:∀(w:World) (r:Option Nat),(binOp .eql 31 (.map r) (.map none)).run Tryz.prog w= .ok (.bool r.isNone) w:=fun w r=>run_eql_map_nil w _ _ _ r jH
 go_enter Tryz.func31,Tryz.ntmps31;go_wp2;go_ret;exact ⟨rfl,rfl⟩
theorem kI (w:World) (next sn:Nat) (h:w.cell? ⟨g,8,none⟩=some (.int .i64 (next:Nat))) (hn:next≤1023) (hs:sn≤1023):
 Calls Tryz.prog 35 #[.pointer (some ⟨g,0,none⟩),.int .i64 sn] w fun e w'=>e= .returned (.int .i64 ((sn+1024-next)%1024:Nat))∧w=w':=by
 have hand:bits BinOp.and IntKind.i64 ((sn:Int)-next) 1023=(((sn+1024-next)%1024:Nat):Int):=by rw[iC];omega
 go_enter Tryz.func35,Tryz.ntmps35;go_wp2;go_ret;exact ⟨rfl,rfl⟩
theorem l7 (h:bO w T g M n c st vo) (ho:aM st) (sn:Nat) (hs:sn≤1023):
 Calls Tryz.prog 35 #[.pointer (some ⟨g,0,none⟩),.int .i64 sn] w fun e w'=>e= .returned (.int .i64 (aI st sn:Nat))∧w=w':=
 kI w st.next sn h.cells.2.2.2.1 ho.n1 hs
theorem gH (er:Int) (w:World):Calls Tryz.prog 34 #[.bool true,.int .i64 er] w fun e w'=>e= .returned (.tuple #[])∧w=w':=by
 go_enter Tryz.func34,Tryz.ntmps34;go_wp2
 go_end0
 exact ⟨rfl,rfl⟩
abbrev pO (er:Int):Ending:= .panicked [{v:= .iface 35 (.int .i64 er),recovered:=false}]
theorem fE (er:Int) (w:World):Calls Tryz.prog 34 #[.bool false,.int .i64 er] w fun e w'=>e=pO er∧w=w':=by
 unfold pO;go_enter Tryz.func34,Tryz.ntmps34;go_wp2;exact ⟨rfl,rfl,rfl⟩
end
section
variable {w:World} {A:Option Addr} {n c:Nat} {l:List Fl}
theorem l8 (h:fA w A n c l) (at_:Nat) (hat:at_≤100000) (which:Nat) (hw:which<3):
 Calls Tryz.prog 85 #[.slice A n c,.int .i64 at_,.int .i64 which] w fun e w'=>e= .returned (.bool (if which=0 then (bK l at_).1 else if which=1 then (bK l at_).2.1 else (bK l at_).2.2))∧w=w':=by
 have hcap:=h.cap;have hmx:=h.mx;have hlen:=h.len;by_cases hlt:at_<n
 ·obtain ⟨g,o,rfl,hg,hc⟩:=h.at_ (by omega);obtain ⟨f,hf⟩:∃f,l[at_]? =some f:=⟨_,List.getElem?_eq_getElem (by omega)⟩
  obtain ⟨k0,k1,k2⟩:=hc at_ f hf;rw[ou hf];clear hc h hf hlen;obtain rfl|rfl|rfl:which=0∨which=1∨which=2:=by omega
  all_goals
   go_enter Tryz.func85,Tryz.ntmps85;go_wp2;go_ret;exact ⟨rfl,rfl⟩
 ·have hf:bK l at_=CQ:=by unfold bK;rw[List.getElem?_eq_none (by omega)];rfl
  rw[hf];clear h hf hlen;obtain rfl|rfl|rfl:which=0∨which=1∨which=2:=by omega
  all_goals
   go_enter Tryz.func85,Tryz.ntmps85;go_wp2;go_ret;exact ⟨rfl,rfl⟩
theorem vO {l:List Fl} {k:Nat} {f:Fl} (hf:l[k]? =some f):iy (l.take (k+1))=iy (l.take k)+f.1.toNat:=by
 unfold iy;rw[List.take_add_one,hf];simp
set_option maxHeartbeats 400000 in
theorem tH (h:fA w A n c l) (hn:n≤100000):
 Calls Tryz.prog 90 #[.slice A n c] w fun e w'=>e= .returned (.int .i64 (iy l:Nat))∧Below w.heap.size w w':=by
 have hcap:=h.cap;have hmx:=h.mx;have HH:=Lib.hid h;have hlen:=h.len;clear h;go_enter Tryz.func90,Tryz.ntmps90;go_wp2
 go_loopw [2,7] (fun s i wr=>∃k:Nat,k≤n∧i= .int .i64 k∧s= .int .i64 (iy (l.take k):Nat)∧Below w.heap.size w wr) (fun _ i _=>n-(intOf i).toNat)
 case atStart=>exact ⟨0,Nat.zero_le _,rfl,rfl,Below.refl _ w⟩
 case round=>
  obtain ⟨k,hk,rfl,rfl,hb⟩:=hrel;by_cases hlt:k<n
  ·obtain ⟨g,o,rfl,hg,hc⟩:=(HH.out.below hb).at_ (by omega);obtain ⟨f,hf⟩:∃f,l[k]? =some f:=⟨_,List.getElem?_eq_getElem (by omega)⟩
   obtain ⟨k0,k1,k2⟩:=hc k f hf;have hle:=kW (l.take k);rw[List.length_take] at hle;have ht:=vO hf;obtain ⟨fg,fs,fe⟩:=f;dsimp only at k0 k1 k2 ht;generalize iy (l.take k)=S at*;have HT:=Lib.hid ht;have HB:=Lib.hid (hb.alloc hb.size (.cells #[.bool fg,.bool fs,.bool fe] 101));clear hc ht hf hb;cases fg with
   |true=>
    go_wp2
    go_round
    case rel=>exact ⟨k+1,by omega,by go_num,by rw[HT.out];go_num,HB.out⟩
    case measure=>simp[intOf];omega
   |false=>
    go_wp2
    go_round
    case rel=>exact ⟨k+1,by omega,by go_num,by rw[HT.out];go_num,HB.out⟩
    case measure=>simp[intOf];omega
  ·have e:l.take k=l:=List.take_of_length_le (by omega);rw[e];have HB:=Lib.hid hb;clear e hb;go_wp2;go_ret;exact ⟨rfl,HB.out⟩
end
end
section
open Go.RowKit Go.Shelf
attribute [local go_sem] Oper.semAt_some
section
variable {w w':World} {T:Nat→Nat} {g M n:Nat} {c:Cf} {st:Rc} {vo:Value}
theorem jb (w:World):Calls Tryz.prog 42 #[.pointer none] w fun e w'=>e= .returned (.bool false)∧Below w.heap.size w w':=by
 go_enter Tryz.func42,Tryz.ntmps42;go_wp2_with fail
 go_quiet (fail)
 go_wp2_with fail;go_ret;exact ⟨rfl,(Below.refl _ w).drewN nq⟩
set_option maxHeartbeats 400000 in
theorem jc {b:Nat} {p:Sp} {vf vd:Value} (h:gG w b p vf vd) (ho:kP p):
 Calls Tryz.prog 42 #[.pointer (some ⟨b,0,none⟩)] w fun e w'=>e= .returned (.bool (eU p))∧Below w.heap.size w w':=by
 obtain ⟨x0,x1,x2⟩:w.cell? ⟨b,0,none⟩=some vf∧w.cell? ⟨b,1,none⟩=some vd∧w.cell? ⟨b,2,none⟩=some (.int .i64 (aJ p)):=⟨h.blk.cell 0,h.blk.cell 1,h.blk.cell 2⟩;have hbl:=h.blk.lt;have hi:=ho.i;obtain ⟨A,cc,rfl,hs⟩:=fA.cr h.fr;have hle:=ho.le;have hcnt:∀W,Below w.heap.size w W→Calls Tryz.prog 90 #[.slice A p.fl.length cc] W fun e w'=>e= .returned (.int .i64 (iy p.fl:Nat))∧Below w.heap.size w w':=fun W hW=>
  (tH (hs.below hW) (by omega)).mono fun e w' hh=>⟨hh.1,hW.trans (hh.2.mono hW.size)⟩
 have HC:=Lib.hid hcnt;have hgl:=kW p.fl;by_cases hz:0<aJ p
 ·have d1:decide (aJ p>0)=true:=by simpa using hz
  have hb0:=Below.refl w.heap.size w;have hres:(((iy p.fl:Nat):Int)==aJ p)=eU p:=by
   unfold aJ at hz ⊢;unfold eU;cases hs2:p.size with
   |none=>rw[hs2] at hz;simp at hz
   |some k=>
    rw[hs2] at hz;dsimp only at hz ⊢;rw[decide_eq_true (show 0<k by omega),Bool.true_and];by_cases e:iy p.fl=k
    ·rw[e];simp
    ·rw[decide_eq_false e];simp;omega
  have JI:=Lib.hid hres;have zY:=Lib.hid hi;clear hres h hcnt hz hs ho;generalize aJ p=S at*;generalize iy p.fl=G at*;go_enter Tryz.func42,Tryz.ntmps42;go_wp2_with fail
  go_region_held3 (fun W=>W.cell? ⟨b,0,none⟩=some (.slice A p.fl.length cc)∧W.cell? ⟨b,2,none⟩=some (.int .i64 S))
   (first|exact ⟨x0,x2⟩|exact ⟨(hb1.cell (p:=⟨b,0,none⟩) hbl).trans x0,(hb1.cell (p:=⟨b,2,none⟩) hbl).trans x2⟩|go_keep)
   (first
    |(go_at_call 90;refine (HC.out _ (by (repeat first|assumption|refine Below.drew ?_|refine Below.drewN ?_ _))).mono ?_;rintro e1 w1 ⟨rfl,hb1⟩)
    |fail)
  all_goals
   go_wp2_with fail;go_ret;exact ⟨by rw[←JI.out];rfl,by assumption⟩
 ·have d1:decide (aJ p>0)=false:=by simpa using hz
  have hres:eU p=false:=by
   unfold aJ at hz;unfold eU;cases hs2:p.size with
   |none=>rfl
   |some k=>
    rw[hs2] at hz;dsimp only at hz ⊢;rw[decide_eq_false (show ¬0<k by omega)];rfl
  rw[hres];clear hres h hcnt hz hs ho hi;generalize aJ p=S at*;go_enter Tryz.func42,Tryz.ntmps42;go_wp2_with fail
  go_quiet (fail)
  go_wp2_with fail;go_ret;exact ⟨rfl,(Below.refl _ w).drewN nq⟩
theorem bO.look (h:bO w T g M n c st vo) {k:Nat} (hk:k≤1023):∃v,(Instr.lookup 31 (.map (some M)) (.int .i64 k) false).run Tryz.prog w= .ok v w∧((st.m k=none∧v= .pointer none)∨∃p b vf vd,st.m k=some p∧v= .pointer (some ⟨b,0,none⟩)∧gG w b p vf vd∧T b=3*k+4∧(∀j,vf.ownBlock=some j→T j=3*k+5)∧(∀j,vd.ownBlock=some j→T j=3*k+6)):=by
 obtain ⟨F,h1,h2⟩:=h.mp;refine ⟨(F k).getD (.pointer none),h1.EI jI jH (tu w) (by omega),?_⟩;cases hm:st.m k with
 |none=>exact .inl ⟨rfl,by rw[(h2 k).1 hm];rfl⟩
 |some p=>
  obtain ⟨b,vf,vd,e,hs,t1,t2,t3⟩:=(h2 k).2 p hm;exact .inr ⟨p,b,vf,vd,rfl,by rw[e];rfl,hs,t1,t2,t3⟩
theorem bO.EJ (h:bO w T g M n c st vo) (ho:aM st) {k:Nat} (hk:k≤1023):∃v,(Instr.lookup 31 (.map (some M)) (.int .i64 k) false).run Tryz.prog w= .ok v w∧
 Calls Tryz.prog 42 #[v] w fun e w'=>e= .returned (.bool (bP (st.m k)))∧Below w.heap.size w w':=by
 obtain ⟨v,hr,⟨hm,rfl⟩|⟨p,b,vf,vd,hm,rfl,hs,_⟩⟩:=h.look hk
 ·refine ⟨_,hr,?_⟩;rw[hm];exact jb w
 ·refine ⟨_,hr,?_⟩;rw[hm];exact jc hs (ho.m k p hm).2.2
theorem aM.stops (ho:aM st) {sn:Nat} (hs:sn≤1023):∃j,j<1024∧bP (st.m ((sn+j)%1024))=false:=by
 refine ⟨((st.next+512)%1024+1024-sn)%1024,by omega,?_⟩;have hn:=ho.n1;rw[show (sn+((st.next+512)%1024+1024-sn)%1024)%1024=(st.next+512)%1024 by omega];cases hm:st.m ((st.next+512)%1024) with
 |none=>rfl
 |some p=>
  have:=(ho.m _ p hm).2.1;unfold aI at this;omega
theorem jJ (m:Nat→Option Sp):∀(f sn:Nat),sn≤1023→iA m f sn≤1023
 |0,_,h=>h
 |f+1,sn,h=>by
  unfold iA;split
  ·exact jJ m f _ (by unfold bH;omega)
  ·exact h
set_option maxHeartbeats 400000 in
theorem oz (h:bO w T g M n c st vo) (ho:aM st) (sn:Nat) (hs:sn≤1023):
 Calls Tryz.prog 37 #[.pointer (some ⟨g,0,none⟩),.int .i64 sn] w fun e w'=>e= .returned (.int .i64 (iA st.m 1024 sn:Nat))∧Below w.heap.size w w':=by
 obtain ⟨R,hR⟩:∃R,R=iA st.m 1024 sn:=⟨_,rfl⟩
 rw[←hR];have HH:=Lib.hid h;have HO:=Lib.hid ho;have HR:=Lib.hid hR;have HST:=Lib.hid (ho.stops hs);clear h ho hR;go_enter Tryz.func37,Tryz.ntmps37;go_wp2;go_loopg [1] 1024 (fun gk s1 wr=>∃(k j:Nat),s1= .int .i64 (k:Nat)∧k≤1023∧Below w.heap.size w wr∧R=iA st.m gk k∧j<gk∧bP (st.m ((k+j)%1024))=false)
 case atStart=>
  obtain ⟨j,h1,h2⟩:=HST.out;exact ⟨sn,j,rfl,hs,Below.refl _ w,HR.out,h1,h2⟩
 case round=>
  obtain ⟨k,j,rfl,hk,hb,hr,hj,hst⟩:=hrel;have hA:=HH.out.below hb;have x7:=hA.cells.2.2.1;obtain ⟨v,hl,hc⟩:=hA.EJ HO.out hk;obtain ⟨f,rfl⟩:∃f,gk=f+1:=⟨gk-1,by omega⟩
  unfold iA at hr;have HC:=Lib.hid hc;have HB:=Lib.hid hb;cases hcm:bP (st.m k) with
  |true=>
   rw[hcm] at HC;rw[hcm,if_pos rfl] at hr;have hj0:j≠0:=fun e=>by
    rw[e,Nat.add_zero,Nat.mod_eq_of_lt (by omega),hcm] at hst;cases hst
   have qY:bP (st.m ((bH k+(j-1))%1024))=false:=by
    unfold bH;rw[show ((k+1)%1024+(j-1))%1024=(k+j)%1024 by omega];exact hst
   have hand:bits BinOp.and IntKind.i64 ((k:Int)+1) 1023=((bH k:Nat):Int):=by rw[iC];unfold bH;omega
   have hup:bH k≤1023:=by unfold bH;omega
   have HRR:=Lib.hid hr;have HS2:=Lib.hid qY;have HJ:=Lib.hid hj;have EK:=Lib.hid hj0;clear hA hc hb hr hst qY hcm hj hj0;generalize bH k=q at*;go_wp2_with fail;refine HC.out.mono ?_;rintro e1 w1 ⟨rfl,hb1⟩;go_wp2
   go_roundg f
   case measure=>omega
   case rel=>exact ⟨q,j-1,rfl,hup,HB.out.trans (hb1.mono HB.out.size),HRR.out,by have:=HJ.out;have:=EK.out;omega,HS2.out⟩
  |false=>
   rw[hcm] at HC;rw[hcm,if_neg (by simp)] at hr;have HRR:=Lib.hid hr;clear hA hc hb hr hst hcm hj;go_wp2_with fail;refine HC.out.mono ?_;rintro e1 w1 ⟨rfl,hb1⟩;go_wp2;go_ret;exact ⟨by rw[HRR.out];rfl,HB.out.trans (hb1.mono HB.out.size)⟩
theorem iD {w w':World} {T:Nat→Nat} (h:Below w.heap.size w w'):Kept (MT T) w w':=(Kept.of_below h).iJ fun k o ho hm=>by have:=lt_of_heap ho;omega
set_option maxHeartbeats 1000000 in
theorem l9 (h:bO w T g M n c st vo) (ho:aM st) (_Pk:0≤c.reorder) (_Pm:c.reorder≤9223372036854775807):
 Calls Tryz.prog 39 #[.pointer (some ⟨g,0,none⟩)] w fun e w'=>e= .returned (.tuple #[])∧bO w' T g M n c (j3 c st) vo∧Kept (MT T) w w':=by
 obtain ⟨x3,x4,x7,x8,x9,x10,wN,wO,xM,pP,zf,xN,xO,x18⟩:=h.cells;have f11:=h.blk.frozen 11;have f12:=h.blk.frozen 12;have f13:=h.blk.frozen 13;have hn1:=ho.t1;have hn2:=ho.t2;have HH:=Lib.hid h;clear h ho x4 x7 x8 x9 pP zf xO x18;go_enter Tryz.func39,Tryz.ntmps39;go_wp2_with fail
 go_region
 all_goals
  go_wp2_with fail
  go_end0
  have h1:=HH.out.put 11 (.bool true) (st':= {st with ro:=true}) rfl rfl rfl;have h2:=h1.put 12 (.int .i64 (st.high:Nat)) (st':= {st with ro:=true,bX:=st.high}) rfl rfl rfl;have h3:=h2.put 13 (.int .i64 (IntKind.i64.wrap (st.now+c.reorder))) (st':= {st with ro:=true,bX:=st.high,exp:=IntKind.i64.wrap (st.now+c.reorder)}) rfl rfl rfl;rw[show wrap64 (st.now+c.reorder)=IntKind.i64.wrap (st.now+c.reorder) by rw[IntKind.wrap_i64];unfold wrap64;rfl];have ht:∀o:Obj,MT T g o:=fun o=>by unfold MT;rw[HH.out.tg];omega
  exact ⟨rfl,h3.drew,(((Kept.refl _ w).setCell (p:=⟨g,11,none⟩) (fun o _=>ht o) _).setCell (p:=⟨g,12,none⟩) (fun o _=>ht o) _).setCell (p:=⟨g,13,none⟩) (fun o _=>ht o) _ |>.drew⟩
end
end
section
open Go.RowKit Go.Shelf
attribute [local go_sem] Oper.semAt_some
theorem eO {w w':World} {g:Nat} {t:TypeId} {cs:Array Value} {row:Option Nat} (h:av w g t cs) (hg:w.grownBy w' row) (hr:∀r,row=some r→∃o:Obj,w.heap[r]? =some o∧o.isCells=false):av w' g t cs:=by
 refine h.grown hg (fun e=> ?_);obtain ⟨o',ho',hc⟩:=hr g e.symm;rw[show w.heap[g]? =_ from h] at ho';cases ho';cases hc
section
variable {B Z go bi bn:Nat} {sn:Int} {po sg la:Bool} {off:Nat} {s e:Bool} {A:Option Addr} {n c:Nat} {Sb:Bool} {fr till:Nat} {w5 W:World} {k:Nat} {qs:List (List UInt8)} {b5 b6:Bool} {X:World}
end
end
section
open Go
section
variable {P:Program} {ops:Array Oper} {Q:Exit→Act→World→Prop} {md:Region.Mode} {S:World→Prop} {L:List Nat}
def eD (L:List Nat) (listed:Array Bool):Bool:=L.all fun d=> !listed.getD d true
def bD (P:Program) (md:Region.Mode) (ops:Array Oper) (Q:Exit→Act→World→Prop) (S:World→Prop) (L:List Nat):Nat→Array Bool→Act→World→Prop
 |0,listed,a,w=>Region.ready md ops listed= []∧Q .normal a w
 |fuel+1,listed,a,w=>
  (Region.ready md ops listed= []→Q .normal a w)∧
  ∀i∈Region.ready md ops listed,wpOp P ops Q i (fun a' w'=>(eD L (listed.setIfInBounds i true)=true→S w')∧bD P md ops Q S L fuel (listed.setIfInBounds i true) a' w') a w
theorem jd:∀(fuel:Nat) (listed:Array Bool) (a:Act) (w:World),bD P md ops Q S L fuel listed a w→wpAny P md ops Q fuel listed a w
 |0,_,_,_,h=>h
 |fuel+1,_,_,_,h=>⟨h.1,fun i hi=>wpOp_mono (fun a' w' h'=>jd fuel _ a' w' h'.2) (h.2 i hi)⟩
theorem kY {listed:Array Bool} {k:Nat} (h3:listed.getD k true=false) (h4:listed.getD k false=true):False:=by
 rcases Nat.lt_or_ge k listed.size with h'|h'
 ·simp[h'] at h3 h4;rw[h3] at h4;cases h4
 ·simp[Array.getElem?_eq_none h'] at h3
theorem eY {listed:Array Bool} {j:Nat} (hj:j∉L):eD L (listed.setIfInBounds j true)=eD L listed:=by
 unfold eD;rw[Bool.eq_iff_iff,List.all_eq_true,List.all_eq_true];constructor
 ·intro h d hd;have:=h d hd
  rwa [getD_set_ne true (fun e=>hj (by rw[e];exact hd))] at this
 ·intro h d hd;rw[getD_set_ne true (fun e=>hj (by rw[e];exact hd))];exact h d hd
def mg (md:Region.Mode) (ops:Array Oper) (W:List Nat) (listed:Array Bool) (i:Nat):Bool:=
 W.all fun j=> !listed.getD j true&&(match ops[j]? with
  |some oj=>oj.after.any fun e=>Region.binds md e&&(e.on==i||W.contains e.on)
  |none=>false)
theorem tJ {W:List Nat} {listed:Array Bool} {i:Nat} (h:mg md ops W listed i=true) (hun:listed.getD i true=false):∀j∈W,j∉Region.ready md ops listed:=by
 intro j hj hr;obtain ⟨Sc,oj,hoj,hall⟩:=mem_ready.1 hr;have h1:=List.all_eq_true.1 h j hj;rw[hoj,Bool.and_eq_true] at h1;obtain ⟨e,he,hb⟩:=Array.any_eq_true'.1 h1.2;simp only[Bool.and_eq_true,Bool.or_eq_true,beq_iff_eq] at hb;have h2:=hall e he hb.1;rcases hb.2 with h3|h3
 ·rw[h3] at h2;exact kY hun h2
 ·have h4:=List.all_eq_true.1 h e.on (by simpa using h3);simp only[Bool.and_eq_true,Bool.not_eq_true'] at h4;exact kY h4.1 h2
theorem vP {W:List Nat} {listed:Array Bool} {i j:Nat} (h:mg md ops W listed i=true) (hj:j∉W):mg md ops W (listed.setIfInBounds j true) i=true:=by
 unfold mg at h ⊢;rw[List.all_eq_true] at h ⊢;intro k hk;have h1:=h k hk
 rwa [getD_set_ne true (fun e=>hj (by rw[e];exact hk))]
theorem qZ {W:List Nat} {listed:Array Bool} {i:Nat} (h:mg md ops W listed i=true) (hW:∀d∈L,d∈W):eD L listed=true:=by
 unfold eD;rw[List.all_eq_true];intro d hd;have h1:=List.all_eq_true.1 h d (hW d hd);rw[Bool.and_eq_true] at h1;exact h1.1
section
variable {i:Nat} {oi:Oper} {v:Value} (hi:ops[i]? =some oi) (hsel:∀(j:Nat) (o:Oper) cs b,ops[j]? =some o→o.op≠ .select cs b) (hQ:∀c a w,Q (.panic c) (a.put oi.dst v) w→Q (.panic c) a w)
theorem kJ {listed:Array Bool} (hfree:∀j oj,ops[j]? =some oj→j≠i→listed.getD j true=false→(∀e∈oj.after,Region.binds md e=true→e.on≠i)→oi.apart ops oj=true) (j:Nat):
 ∀k ok,ops[k]? =some ok→k≠i→(listed.setIfInBounds j true).getD k true=false→(∀e∈ok.after,Region.binds md e=true→e.on≠i)→oi.apart ops ok=true:=fun k ok hk hki hun hno=>by
 refine hfree k ok hk hki ?_ hno;by_cases hjk:j=k
 ·subst hjk;rcases Nat.lt_or_ge j listed.size with h'|h'
  ·simp[h'] at hun
  ·simp at hun
 ·rw[getD_set_ne true hjk] at hun;exact hun
include hi hsel hQ in
theorem pQ (W:List Nat) (hil:i∉L) (hW:∀d∈L,d∈W):∀(fuel:Nat) (listed:Array Bool) (a:Act) (w:World),
 (∀j oj,ops[j]? =some oj→j≠i→listed.getD j true=false→(∀e∈oj.after,Region.binds md e=true→e.on≠i)→oi.apart ops oj=true)→
 i∈Region.ready md ops listed→YieldsIf P ops S oi v a→S w→mg md ops W listed i=true→
 bD P md ops Q S L fuel (listed.setIfInBounds i true) (a.put oi.dst v) w→bD P md ops Q S L (fuel+1) listed a w:=by
 intro fuel
 induction fuel with
 |zero=>
  intro listed a w _ hr hy hS hc H;refine ⟨fun h=>(by rw[h] at hr;cases hr),fun j hj=> ?_⟩;by_cases hji:j=i
  ·subst hji;exact hy.wpOp hi hS ⟨fun _=>hS,H⟩
  ·have:=ready_mono hj hji;rw[H.1] at this;cases this
 |succ fuel ih=>
  intro listed a w hfree hr hy hS hc H;refine ⟨fun h=>(by rw[h] at hr;cases hr),fun j hj=> ?_⟩;by_cases hji:j=i
  ·subst hji;exact hy.wpOp hi hS ⟨fun _=>hS,H⟩
  ·have h1:=H.2 j (ready_mono hj hji);have MI:j∉W:=fun hm=>tJ hc (mem_ready.1 hr).1 j hm hj
   have hjl:j∉L:=fun hm=>MI (hW j hm)
   have hcl:=qZ hc hW;have EL:eD L ((listed.setIfInBounds i true).setIfInBounds j true)=true:=by rw[eY hjl,eY hil];exact hcl
   obtain ⟨hjun,oj,hoj,hall⟩:=mem_ready.1 hj;have hnot:∀e∈oj.after,Region.binds md e=true→e.on≠i:=fun e he hb heq=>by
    have h1:=hall e he hb;have h0:=(mem_ready.1 hr).1;rw[heq] at h1;exact kY h0 h1
   have h2:=wpOp_putIf hoj (hfree j oj hoj hji hjun hnot) (fun cs b=>hsel i oi cs b hi) (fun cs b=>hsel j oj cs b hoj) hQ hy h1;refine wpOp_mono (fun a' w' h3=>⟨fun _=>h3.2.1 EL,ih (listed.setIfInBounds j true) a' w' (kJ hfree j) (ready_mono hr (Ne.symm hji)) h3.1 (h3.2.1 EL) (vP hc MI) ?_⟩) h2;rw[Array.setIfInBounds_comm _ _ hji];exact h3.2.2
include hi hsel hQ in
theorem iQ (hil:i∉L):∀(fuel:Nat) (listed:Array Bool) (a:Act) (w:World),
 (∀j oj,ops[j]? =some oj→j≠i→listed.getD j true=false→(∀e∈oj.after,Region.binds md e=true→e.on≠i)→oi.apart ops oj=true)→
 i∈Region.ready md ops listed→YieldsIf P ops (fun _=>True) oi v a→(eD L listed=true→S w)→
 bD P md ops Q S L fuel (listed.setIfInBounds i true) (a.put oi.dst v) w→bD P md ops Q S L (fuel+1) listed a w:=by
 intro fuel
 induction fuel with
 |zero=>
  intro listed a w _ hr hy hS H;refine ⟨fun h=>(by rw[h] at hr;cases hr),fun j hj=> ?_⟩;by_cases hji:j=i
  ·subst hji;exact hy.wpOp hi trivial ⟨fun h=>hS (by rwa [eY hil] at h),H⟩
  ·have:=ready_mono hj hji;rw[H.1] at this;cases this
 |succ fuel ih=>
  intro listed a w hfree hr hy hS H;refine ⟨fun h=>(by rw[h] at hr;cases hr),fun j hj=> ?_⟩;by_cases hji:j=i
  ·subst hji;exact hy.wpOp hi trivial ⟨fun h=>hS (by rwa [eY hil] at h),H⟩
  ·have h1:=H.2 j (ready_mono hj hji);obtain ⟨hjun,oj,hoj,hall⟩:=mem_ready.1 hj;have hnot:∀e∈oj.after,Region.binds md e=true→e.on≠i:=fun e he hb heq=>by
    have h1:=hall e he hb;have h0:=(mem_ready.1 hr).1;rw[heq] at h1;exact kY h0 h1
   have hcc:eD L (listed.setIfInBounds j true)=true→eD L ((listed.setIfInBounds i true).setIfInBounds j true)=true:=fun h=>by
    rw[Array.setIfInBounds_comm _ _ (Ne.symm hji),eY hil];exact h
   have h2:=wpOp_putIf hoj (hfree j oj hoj hji hjun hnot) (fun cs b=>hsel i oi cs b hi) (fun cs b=>hsel j oj cs b hoj) hQ hy h1;refine wpOp_mono (fun a' w' h3=>⟨fun h=>h3.2.1 (hcc h),ih (listed.setIfInBounds j true) a' w' (kJ hfree j) (ready_mono hr (Ne.symm hji)) h3.1 (fun h=>h3.2.1 (hcc h)) ?_⟩) h2;rw[Array.setIfInBounds_comm _ _ hji];exact h3.2.2
end
theorem ax {i:Nat} {oi:Oper} {v:Value} {fuel:Nat} {listed:Array Bool} {a:Act} {w:World} (W:List Nat) (hi:ops[i]? =some oi)
 (hs:Region.noSelect ops=true) (hf:Region.free md ops listed i=true) (hr:(Region.ready md ops listed).contains i=true) (hl:(!L.contains i&&(mg md ops W listed i&&L.all fun d=>W.contains d))=true)
 (hQ:∀c a w,Q (.panic c) (a.put oi.dst v) w→Q (.panic c) a w) (hy:YieldsIf P ops S oi v a) (hS:S w)
 (h:bD P md ops Q S L fuel (listed.setIfInBounds i true) (a.put oi.dst v) w):bD P md ops Q S L (fuel+1) listed a w:=by
 simp only[Bool.and_eq_true,Bool.not_eq_true'] at hl;exact pQ hi (Region.noSelect_spec hs) hQ W (by simpa using hl.1) (fun d hd=>by simpa using List.all_eq_true.1 hl.2.2 d hd) fuel listed a w (Region.free_spec hi hf) (by simpa using hr) hy hS hl.2.1 h
theorem ah {i:Nat} {oi:Oper} {v:Value} {fuel:Nat} {listed:Array Bool} {a:Act} {w:World} (hi:ops[i]? =some oi)
 (hs:Region.noSelect ops=true) (hf:Region.free md ops listed i=true) (hr:(Region.ready md ops listed).contains i=true) (hl:(!L.contains i)=true)
 (hQ:∀c a w,Q (.panic c) (a.put oi.dst v) w→Q (.panic c) a w) (hy:YieldsIf P ops (fun _=>True) oi v a) (hS:S w)
 (h:bD P md ops Q S L fuel (listed.setIfInBounds i true) (a.put oi.dst v) w):bD P md ops Q S L (fuel+1) listed a w:=
 iQ hi (Region.noSelect_spec hs) hQ (by simpa using hl) fuel listed a w (Region.free_spec hi hf) (by simpa using hr) hy (fun _=>hS) h
theorem aj {i:Nat} {oi:Oper} {v:Value} {fuel:Nat} {listed:Array Bool} {a:Act} {w:World} (hi:ops[i]? =some oi)
 (hs:Region.noSelect ops=true) (hf:Region.free md ops listed i=true) (hr:(Region.ready md ops listed).contains i=true) (hl:(!L.contains i&& !eD L listed)=true)
 (hQ:∀c a w,Q (.panic c) (a.put oi.dst v) w→Q (.panic c) a w) (hy:YieldsIf P ops (fun _=>True) oi v a)
 (h:bD P md ops Q S L fuel (listed.setIfInBounds i true) (a.put oi.dst v) w):bD P md ops Q S L (fuel+1) listed a w:=by
 simp only[Bool.and_eq_true,Bool.not_eq_true'] at hl;exact iQ hi (Region.noSelect_spec hs) hQ (by simpa using hl.1) fuel listed a w (Region.free_spec hi hf) (by simpa using hr) hy (fun h=>by rw[hl.2] at h;cases h) h
theorem bB {i:Nat} {oi:Oper} {fuel:Nat} {listed:Array Bool} {a:Act} {w:World} (hi:ops[i]? =some oi) (hr:Region.ready md ops listed= [i]) (hl:eD L (listed.setIfInBounds i true)=false) (hw:Region.wanted oi (yielded ops a.tmps)=true)
 (h:∀K:Act→World→Prop,(∀a' w',bD P md ops Q S L fuel (listed.setIfInBounds i true) a' w'→K a' w')→oi.wp P a w K Q):bD P md ops Q S L (fuel+1) listed a w:=by
 refine ⟨fun h0=>(by rw[hr] at h0;cases h0),fun j hj=> ?_⟩;rw[hr] at hj;have hji:j=i:=by simpa using hj
 subst hji;unfold wpOp;simp only[hi,hw,if_true];exact .inl (h _ fun a' w' h'=>⟨fun hc=>(by rw[hl] at hc;cases hc),h'⟩)
theorem aO {i:Nat} {oi:Oper} {fuel:Nat} {listed:Array Bool} {a:Act} {w:World} (hi:ops[i]? =some oi) (hr:Region.ready md ops listed= [i]) (hw:Region.wanted oi (yielded ops a.tmps)=true)
 (h:∀K:Act→World→Prop,(∀a' w',S w'→bD P md ops Q S L fuel (listed.setIfInBounds i true) a' w'→K a' w')→oi.wp P a w K Q):bD P md ops Q S L (fuel+1) listed a w:=by
 refine ⟨fun h0=>(by rw[hr] at h0;cases h0),fun j hj=> ?_⟩;rw[hr] at hj;have hji:j=i:=by simpa using hj
 subst hji;unfold wpOp;simp only[hi,hw,if_true];exact .inl (h _ fun a' w' hs h'=>⟨fun _=>hs,h'⟩)
theorem aS {listed:Array Bool} {a:Act} {w:World} (hr:Region.ready md ops listed= []) (h:Q .normal a w):∀fuel,bD P md ops Q S L fuel listed a w
 |0=>⟨hr,h⟩
 |_+1=>⟨fun _=>h,by rw[hr];simp⟩
theorem bJ {id:Nat} {a:Act} {w:World} (S:World→Prop) (L:List Nat) (hm:P.follows .mixedOrders=true)
 (h:bD P .any ops Q S L ops.size (Array.replicate ops.size false) a w.drew):(Code.region id ops true).wp P Q a w:=
 wp_region_any hm (jd _ _ _ _ h)
end
end
section
open Go.RowKit Go.Lib
section
variable {P:Program} (w:World)
theorem gQ (t tn ty e:TypeId) (i:TypeInfo) (z:Value) (kq kn:IntKind) (ht:P.underlying t=some (.slice e)) (htn:P.underlying tn=some (.int kn)) (hi:P.info? e=some i) (hz:i.zero=some z) (hzs:z.cells.size=i.size)
 (g sLen sCap:Nat) (cur:Array Value) (hg:w.heap[g]? =some (.cells cur e (0,0))) (k:Nat) (h0:0<k) (hs:0<i.size) (h48:k*i.bytes≤281474976710656) (h63:((k:Nat):Int)≤9223372036854775807) (h1:∀u∈(Builtin.zeroCells z.cells k).toList,u.oneCell'=true)
 (hroom:sLen+k≤sCap) (hfit:sLen*i.size+k*i.size≤cur.size):
 (Builtin.append_ #[t,tn] ty #[.slice (some ⟨g,0,none⟩) sLen sCap,.int kq k]).run P w=
  .ok (.slice (some ⟨g,0,none⟩) (sLen+k) sCap) (w.setRow g (cur.toList.take (sLen*i.size)++(Builtin.zeroCells z.cells k).toList++cur.toList.drop (sLen*i.size+(Builtin.zeroCells z.cells k).toList.length)).toArray):=by
 have hl:(Builtin.zeroCells z.cells k).toList.length=k*i.size:=by rw[Array.length_toList,size_zeroCells,hzs]
 have hst:=run_storeCells_at P g (sLen*i.size) e (Builtin.zeroCells z.cells k).toList 0 cur w hg (by rw[hl];simpa using hfit) h1;simp only[Nat.add_zero] at hst;have hw:IntKind.i64.wrap (k:Int)=k:=by rw[IntKind.wrap_i64];omega
 have h48i:¬(281474976710656<(k:Int)*(i.bytes:Int)):=by
  rw[←Int.natCast_mul];omega
 have hneg:¬((k:Int)<0):=by omega
 have hns:¬(k*i.size=0):=Nat.mul_ne_zero (by omega) (by omega);simp[Builtin.append_,run_underlying ht,run_underlying htn,sizeOf,typeInfo,zeroValue,hi,hz,asInt,asIntOf,hw,hneg,hns,h48i,hroom,Addr.add_lit,hst]
theorem iE (base:Nat) (t tn ty e:TypeId) (i:TypeInfo) (z:Value) (size bytes:Nat) (kq kn:IntKind) (ht:P.underlying t=some (.slice e)) (htn:P.underlying tn=some (.int kn)) (hi:P.info? e=some i) (hz:i.zero=some z)
 (hsize:i.size=size) (hby:i.bytes=bytes) (hzs:z.cells.size=size) (hsz:0<size)
 (v:Value) (n:Nat) (xs:List Value) (hown:w.ownsRow base e size v n xs) (k:Nat) (h0:0<k) (h1:∀u∈(Builtin.zeroCells z.cells k).toList,u.oneCell'=true)
 (h63:n+k≤maxLen) (hbytes:(n+k)*bytes≤140737488355328) (hbase:base≤w.heap.size):
 ∃v' w',(Builtin.append_ #[t,tn] ty #[v,.int kq k]).run P w= .ok v' w'∧w'.ownsRow base e size v' (n+k) (xs++(Builtin.zeroCells z.cells k).toList)∧w.grownBy w' v.ownBlock∧(v'.ownBlock=v.ownBlock∨v'.ownBlock=some w.heap.size):=by
 subst hsize;subst hby;have hl:(Builtin.zeroCells z.cells k).toList.length=k*i.size:=by rw[Array.length_toList,size_zeroCells,hzs]
 have hlen:(xs++(Builtin.zeroCells z.cells k).toList).length=(n+k)*i.size:=by rw[List.length_append,hown.1,hl,Nat.add_mul]
 have hm63:((n+k:Nat):Int)≤9223372036854775807:=by simp only[maxLen] at h63;omega
 have hkb:k*i.bytes≤(n+k)*i.bytes:=Nat.mul_le_mul_right _ (by omega);have hxa:∀(c:Array Value),(xs.toArray++Builtin.zeroCells z.cells k++c).toList=(xs++(Builtin.zeroCells z.cells k).toList)++c.toList:=fun c=>by simp
 have grown:∀(old:Nat),old<n+k→∀(row:Option Nat),
  (w.drew.alloc (.cells (xs.toArray++Builtin.zeroCells z.cells k++Builtin.zeroCells z.cells (grownCap w (n+k) old e-(n+k))) e)).ownsRow base e i.size
   (.slice (some ⟨w.heap.size,0,none⟩) (n+k) (grownCap w (n+k) old e)) (n+k) (xs++(Builtin.zeroCells z.cells k).toList)∧
  w.grownBy (w.drew.alloc (.cells (xs.toArray++Builtin.zeroCells z.cells k++Builtin.zeroCells z.cells (grownCap w (n+k) old e-(n+k))) e)) row:=by
  intro old ho row;have hge:=grownCap_ge w (n+k) old e;have hcm:grownCap w (n+k) old e≤maxLen:=grownCap_le_maxLen w (n+k) old e h63;refine ⟨⟨hlen,.inr ⟨w.heap.size,_,_,rfl,hbase,heap_alloc_new w.drew _,hge,hcm,?_,?_⟩⟩,⟨rfl,rfl,rfl,by simp,fun k hk _=>Below.heap_alloc w.drew _ k hk⟩⟩
  ·simp only[Array.size_append,List.size_toArray,size_zeroCells,hzs,hown.1,←Nat.add_mul]
   congr 1
   omega
  ·rw[hxa,←hlen];exact List.take_left
 rcases hown.2 with ⟨rfl,rfl⟩|⟨g,cap,cur,rfl,hbg,hg,hnc,hcm,hcs,htake⟩
 ·have hx:xs= []:=List.eq_nil_of_length_eq_zero (by simpa using hown.1);subst hx;have hr:=run_append_nil_zeros (P:=P) w t tn ty e i z kq kn ht htn hi hz k h0 hsz (by simpa using hm63) (by omega);have hgr:=grown 0 (by omega) (Value.ownBlock (.slice none 0 0));simp only[Nat.zero_add,List.nil_append,Array.empty_append] at hgr ⊢;exact ⟨_,_,hr,hgr.1,hgr.2,.inr rfl⟩
 ·by_cases hroom:n+k≤cap
  ·have hfit:n*i.size+k*i.size≤cur.size:=by rw[hcs,←Nat.add_mul];exact Nat.mul_le_mul_right _ hroom
   have hr:=gQ (P:=P) w t tn ty e i z kq kn ht htn hi hz hzs g n cap cur hg k h0 hsz (by omega) (by omega) h1 hroom hfit;refine ⟨_,_,hr,⟨hlen,.inr ⟨g,cap,_,rfl,hbg,setRow_heap w g cur _ e _ hg,hroom,hcm,?_,?_⟩⟩,⟨rfl,rfl,rfl,by simp,fun k _ hk=>setRow_other w g k _ (fun e=>hk (by simp[Value.ownBlock,e]))⟩,.inl rfl⟩
   ·simp only[List.size_toArray,List.length_append,List.length_take,List.length_drop,Array.length_toList,size_zeroCells,hzs];omega
   ·rw[htake,←hlen];exact List.take_left
  ·have holds:∀j u,xs[j]? =some u→w.drew.cell? ((⟨g,0,none⟩:Addr).add j)=some u:=hown.cells (g:=g) rfl
   have hfc:=run_firstCells_some (P:=P) w.drew i.size n ⟨g,0,none⟩ n cap xs hown.1 holds;have hr:=run_append_grow_zeros (P:=P) w t tn ty e i z kq kn ht htn hi hz (some ⟨g,0,none⟩) n cap xs hfc k h0 hsz (by omega) hm63 (by omega) (growslice_fits (by omega) hbytes);have hgr:=grown cap (by omega) (Value.ownBlock (.slice (some ⟨g,0,none⟩) n cap));exact ⟨_,_,hr,hgr.1,hgr.2,.inr rfl⟩
theorem gM {o:Oper} {a:Act} {K:Act→World→Prop} {Q:Exit→Act→World→Prop} (s x:Operand) (t tn:TypeId)
 (ho:o.op= .call {callee:= .builtin .append,args:= #[s,x],argTypes:= #[t,tn]})
 (base:Nat) (e:TypeId) (i:TypeInfo) (z:Value) (size bytes:Nat) (kq kn:IntKind) (ht:P.underlying t=some (.slice e)) (htn:P.underlying tn=some (.int kn)) (hi:P.info? e=some i) (hz:i.zero=some z)
 (hsize:i.size=size) (hby:i.bytes=bytes) (hzs:z.cells.size=size) (hsz:0<size)
 (v:Value) (n:Nat) (xs:List Value) (hs:a.eval s=v) (hown:w.ownsRow base e size v n xs) (k:Nat) (hx:a.eval x= .int kq k) (h0:0<k) (h1:∀u∈(Builtin.zeroCells z.cells k).toList,u.oneCell'=true)
 (h63:n+k≤maxLen) (hbytes:(n+k)*bytes≤140737488355328) (hbase:base≤w.heap.size)
 (h:∀v' w',w'.ownsRow base e size v' (n+k) (xs++(Builtin.zeroCells z.cells k).toList)→w.grownBy w' v.ownBlock→(v'.ownBlock=v.ownBlock∨v'.ownBlock=some w.heap.size)→K (a.put o.dst v') w'):o.wp P a w K Q:=by
 obtain ⟨v',w',hrun,h2,h3,h4⟩:=iE (P:=P) w base t tn o.type e i z size bytes kq kn ht htn hi hz hsize hby hzs hsz v n xs hown k h0 h1 h63 hbytes hbase;unfold Oper.wp execOp;simp only[ho,resolve,invoke,builtin,Sem.run_bind,Sem.run_pure,Result.andThen_ok,List.map_toArray,List.map_cons,List.map_nil,hs,hx,hrun];exact h v' w' h2 h3 h4
end
end
end Go.Proofs.YtiecgfahidpldaaGreat
