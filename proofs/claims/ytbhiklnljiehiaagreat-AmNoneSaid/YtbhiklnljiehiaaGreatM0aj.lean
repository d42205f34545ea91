/- amrecv: storing bytes; delivering a whole PDU (plain). Maps with numbers for keys, whose elements are values as they lie. amrecv: the receiver's memory. amrecv: none, place, has, count, complete, from, must. amrecv: complete, from, waits, goes. -/
import Derived.Test.YtbhiklnljiehiaaGreatM0ai
import Derived.Maps.OwnSet
import Derived.Deep.RegionHeld3
import Derived.Deep.DeepCutAuto
import Derived.BigRegion
namespace Go.Proofs.YtbhiklnljiehiaaGreat
section
structure XE (F:List (Fl × UInt8)) (x:List Fl × List UInt8):Prop where
 ll:x.2.length=x.1.length
 le:x.1.length≤F.length
 eq:∀(i:Nat) (f:Fl) (b:UInt8),x.1[i]? =some f→x.2[i]? =some b→f.1=true→F[i]? =some (f,b)
theorem Bo {l:List Fl} {i:Nat} {f:Fl} (h:l[i]? =some f):fJ l i=f:=by unfold fJ;rw[h];rfl
theorem qm:∀(l:List (Fl × UInt8)) (a:Nat) (x:List Fl × List UInt8),(Bl l a x).1.length=x.1.length∧(Bl l a x).2.length=x.2.length
 | [],_,_=>⟨rfl,rfl⟩
 |(f,b)::r,a,x=>by
  unfold Bl;have h:=qm r (a+1) (if (fJ x.1 a).1=true then x else (x.1.set a f,x.2.set a b));rw[h.1,h.2];split<;>simp
theorem CY:∀(l m:List (Fl × UInt8)) (a:Nat) (x:List Fl × List UInt8),Bl (l++m) a x=Bl m (a+l.length) (Bl l a x)
 | [],_,_,_=>rfl
 |(f,b)::r,m,a,x=>by
  rw[List.cons_append,Bl,Bl,CY r m,List.length_cons,show a+1+r.length=a+(r.length+1) by omega]
theorem Jb {F:List (Fl × UInt8)}:∀(l:List (Fl × UInt8)) (a:Nat) (x:List Fl × List UInt8),XE F x→(∀(j:Nat) z,l[j]? =some z→F[a+j]? =some z)→XE F (Bl l a x)
 | [],_,_,h,_=>h
 |(f,b)::r,a,x,h,hl=>by
  unfold Bl;refine Jb r (a+1) _ ?_ (fun j z hj=>by have:=hl (j+1) z (by simpa using hj);rwa [show a+(j+1)=a+1+j by omega] at this);split
  ·exact h
  ·refine ⟨by simpa using h.ll,by simpa using h.le,fun i g c hg hc ht=> ?_⟩;dsimp only at hg hc;rw[List.getElem?_set] at hg hc;by_cases hi:a=i
   ·subst hi;have h0:=hl 0 (f,b) rfl;rw[Nat.add_zero] at h0;rw[if_pos rfl] at hg hc;split at hg
    ·split at hc
     ·cases hg;cases hc;exact h0
     ·cases hc
    ·cases hg
   ·rw[if_neg hi] at hg hc;exact h.eq i g c hg hc ht
theorem TN {F:List (Fl × UInt8)} {p:Sp} {k:Nat} (h:XE F (p.fl,p.da)) (hk:k≤F.length):XE F (jP k p.fl,nW k p.da):=by
 have h1:=h.ll;have h2:=h.le;dsimp only at h1 h2;refine ⟨by simp[jP,nW,h1],by simp[jP];omega,fun i f b hf hb ht=> ?_⟩;simp only[jP,nW] at hf hb;rw[List.getElem?_append] at hf hb;rw[h1] at hb;split at hf
 ·rename_i hlt;rw[if_pos hlt] at hb;exact h.eq i f b hf hb ht
 ·rw[List.getElem?_replicate] at hf;split at hf
  ·cases hf;simp[RN] at ht
  ·cases hf
theorem uV (p:List UInt8) (a b:Bool):(qF p a b).length=p.length:=by simp[qF]
theorem JZ (p:List UInt8) (a b:Bool) (j:Nat):(qF p a b)[j]? =p[j]?.map (fun x=>((true,decide (j=0)&&a,decide (j+1=p.length)&&b),x)):=by simp[qF]
theorem rA (s e:Bool) (n:Nat):∀(i:Nat) (ps:List (List UInt8)),(gL s e n i ps).length=ah ps
 |_,[]=>rfl
 |i,p::r=>by
  rw[gL,List.length_append,uV,rA s e n (i+1) r];simp[ah]
theorem J2 (f:Fl) (l:List Fl):pN (f::l)=f.1.toNat+pN l:=by simp[pN]
theorem wS:∀l:List Fl,pN l≤l.length
 | []=>by simp[pN]
 |f::l=>by
  have:=wS l;rw[J2,List.length_cons];cases f.1<;>simp<;>omega
end
section
open Go.RowKit Go.Maps
def Mm (v:Value):Option (DataW Value × List MemPlace):=some (.held v,[])
def gN (P:Program) (k:TypeId) (w:World) (b n:Nat) (F:Nat→Option Value):Prop:=
 ∃D:DataW Value,w.ownsMap P k Mm b n D∧IsMap D∧∀j:Nat,j≤9223372036854775807→Maps.has D (.int .i64 j)=(F j).isSome∧∀v,F j=some v→∀z,D.atKey (.int .i64 j) z= .held v
def CZ (F:Nat→Option Value) (k:Nat) (v:Option Value):Nat→Option Value:=fun j=>if j=k then v else F j
section
variable {P:Program} {t k e:TypeId} {w w':World} {b n:Nat} {F:Nat→Option Value}
theorem gN.made (P:Program) (k:TypeId) (w:World):gN P k (w.alloc (.map #[] 0)) w.heap.size 0 (fun _=>none):=
 ⟨.map [],World.ownsMap_made w P k Mm,isMap_empty,fun j _=>⟨rfl,fun v h=>by cases h⟩⟩
theorem gN.lt (h:gN P k w b n F):b<w.heap.size:=let ⟨_,h,_⟩:=h;h.lt
theorem gN.same (h:gN P k w b n F) (hs:w'.heap[b]? =w.heap[b]?):gN P k w' b n F:=by
 obtain ⟨D,⟨es,clock,hb,hr⟩,h2⟩:=h;exact ⟨D,⟨es,clock,hs.trans hb,hr⟩,h2⟩
theorem C4 {j:Nat} (h:j≤9223372036854775807):(Lit.int .i64 (j:Int)).wf=true:=by
 simp[Lit.wf,IntKind.min,IntKind.max,IntKind.bits,IntKind.signed];omega
theorem gN.drop (h:gN P k w b n F) (hk:P.underlying k=some (.int .i64)) (ht:P.underlying t=some (.map k e)) {j:Nat} (hj:j≤9223372036854775807) (ty:TypeId):
 ∃w',(Builtin.delete_ #[t,k] ty #[.map (some b),.int .i64 j]).run P w= .ok (.tuple #[]) w'∧gN P k w' b n (CZ F j none)∧w.grownBy w' (some b):=by
 obtain ⟨D,h1,hm,h2⟩:=h;obtain ⟨w',hr,h3,h4⟩:=h1.drop (int_keyed hk) ht (keyOf_int_mk hk (C4 hj)) ty;refine ⟨w',hr,⟨_,h3,hm.del _,fun i hi=> ?_⟩,h4.grown⟩;unfold CZ;by_cases hij:i=j
 ·subst hij;simp[Maps.has_del_same]
 ·rw[if_neg hij];have hne:(Lit.int .i64 (i:Int))≠Lit.int .i64 (j:Int):=by
   intro hh;injection hh with _ hh
   omega
  obtain ⟨a,b⟩:=h2 i hi;exact ⟨by rw[Maps.has_del_other hne,a],fun v hv z=>by rw[Maps.atKey_del_other hne,b v hv]⟩
theorem gN.store (h:gN P k w b n F) (hk:P.underlying k=some (.int .i64)) (ht:P.underlying t=some (.map k e)) (hn:n<maxLen) {j:Nat} (hj:j≤9223372036854775807) (val:Value):
 ∃w',(Instr.mapUpdate t (.map (some b)) (.int .i64 j) val).run P w= .ok () w'∧gN P k w' b (n+1) (CZ F j (some val))∧w.grownBy w' (some b):=by
 obtain ⟨D,h1,hm,h2⟩:=h;obtain ⟨w',hr,h3,h4⟩:=h1.store (int_keyed hk) ht hn (keyOf_int_mk hk (C4 hj)) (val:=val) (d:= .held val) (ps:= []) rfl;have hkl:WideAt.IsKeyLit (.int .i64 (j:Int)):=(int_keyed (P:=P) hk).key (keyOf_int_mk hk (C4 hj));refine ⟨w',hr,⟨_,h3,hm.put _ _,fun i hi=> ?_⟩,h4.grown⟩;unfold CZ;by_cases hij:i=j
 ·subst hij;rw[if_pos rfl];exact ⟨by rw[Maps.has_put_same hm hkl];rfl,fun v hv z=>by cases hv;exact Maps.atKey_put_same hm hkl _ _⟩
 ·rw[if_neg hij];have hne:(Lit.int .i64 (i:Int))≠Lit.int .i64 (j:Int):=by
   intro hh;injection hh with _ hh
   omega
  obtain ⟨a,b⟩:=h2 i hi;exact ⟨by rw[Maps.has_put_other hne,a],fun v hv z=>by rw[Maps.atKey_put_other hne,b v hv]⟩
end
section
variable {P:Program} (w:World) {ops:Array Oper} {rest:List Oper} {o:Oper} {a:Act} {Q:Exit→Act→World→Prop}
theorem sQ (hg:o.guard=none) (m x:Operand) (t k:TypeId) (hop:o.op=Op.call {callee:=Callee.builtin Builtin.delete,args:= #[m,x],argTypes:= #[t,k]}) (e:TypeId) (hk:P.underlying k=some (.int .i64)) (ht:P.underlying t=some (.map k e))
 (b n:Nat) (F:Nat→Option Value) (hm:a.eval m= .map (some b)) (hown:gN P k w b n F) (j:Nat) (hx:a.eval x= .int .i64 j) (hj:j≤9223372036854775807)
 (hK:∀w',gN P k w' b n (CZ F j none)→w.grownBy w' (some b)→wpList P ops Q rest (a.put o.dst (.tuple #[])) w'):wpList P ops Q (o::rest) a w:=by
 refine wpList_plain hg fun K' hK'=> ?_
 obtain ⟨w',hrun,r1,r2⟩:=hown.drop hk ht hj o.type;unfold Oper.wp;simp[execOp,hop,resolve,invoke,builtin,hm,hx,hrun,Result.andThen];exact hK' _ _ (hK w' r1 r2)
theorem uW (hg:o.guard=none) (m x v:Operand) (t:TypeId) (hop:o.op=Op.mapUpdate t m x v) (k e:TypeId) (hk:P.underlying k=some (.int .i64)) (ht:P.underlying t=some (.map k e))
 (b n:Nat) (F:Nat→Option Value) (hm:a.eval m= .map (some b)) (hown:gN P k w b n F) (hn:n<maxLen) (j:Nat) (hx:a.eval x= .int .i64 j) (hj:j≤9223372036854775807) (val:Value) (hv:a.eval v=val)
 (hK:∀w',gN P k w' b (n+1) (CZ F j (some val))→w.grownBy w' (some b)→wpList P ops Q rest (a.put o.dst undef) w'):wpList P ops Q (o::rest) a w:=by
 refine wpList_plain hg fun K' hK'=> ?_
 obtain ⟨w',hrun,r1,r2⟩:=hown.store hk ht hn hj val;unfold Oper.wp;simp[execOp,hop,hm,hx,hv,hrun,Result.andThen];exact hK' _ _ (hK w' r1 r2)
end
end
section
open Go.RowKit Go.Maps
theorem wT:Tryz.prog.underlying 128=some (.map 3 161):=by kernel_rfl
theorem sS:Tryz.prog.underlying 3=some (.int .i64):=by kernel_rfl
theorem GY (w:World):(zeroValue 161).run Tryz.prog w= .ok (.pointer none) w:=by kernel_rfl
section
variable {P:Program} {t k e:TypeId} {w w':World} {b n:Nat} {F:Nat→Option Value}
theorem gN.XF (h:gN P k w b n F) (hk:P.underlying k=some (.int .i64)) (ht:P.underlying t=some (.map k e)) {z:Value} (hz:(zeroValue e).run P w= .ok z w) {j:Nat} (hj:j≤9223372036854775807):
 (Instr.lookup t (.map (some b)) (.int .i64 j) false).run P w= .ok ((F j).getD z) w:=by
 obtain ⟨D,h1,_,h2⟩:=h;obtain ⟨v,ps,hr,hv⟩:=h1.lookup (zd:= .held z) (zp:= []) (int_keyed hk) ht hz rfl (keyOf_int_mk hk (C4 hj));obtain ⟨e1,e2⟩:=h2 j hj;rw[hr];simp only[Mm,Option.some.injEq,Prod.mk.injEq] at hv;cases hF:F j with
 |none=>
  rw[hF] at e1;have:=Maps.atKey_of_not_has (by simpa using e1) (.held z);rw[this] at hv;cases hv.1;rfl
 |some u=>
  rw[e2 u hF] at hv;cases hv.1;rfl
end
def uh (l:List Fl):List Value:=l.flatMap (fun f=> [.bool f.1,.bool f.2.1,.bool f.2.2])
theorem lu (f:Fl) (l:List Fl):uh (f::l)= .bool f.1:: .bool f.2.1:: .bool f.2.2::uh l:=by simp[uh]
theorem GZ (l:List Fl):(uh l).length=l.length*3:=by
 induction l with
 |nil=>rfl
 |cons r t ih=>
  rw[lu];simp only[List.length_cons,ih];omega
theorem PL (a b:List Fl):uh (a++b)=uh a++uh b:=by simp[uh]
theorem wU:∀(l:List Fl) (j:Nat) (f:Fl),l[j]? =some f→(uh l)[j*3]? =some (.bool f.1)∧(uh l)[j*3+1]? =some (.bool f.2.1)∧(uh l)[j*3+2]? =some (.bool f.2.2)
 | [],j,r,h=>by simp at h
 |x::t,0,r,h=>by
  simp at h;subst h;rw[lu];exact ⟨rfl,rfl,rfl⟩
 |x::t,j+1,r,h=>by
  have ih:=wU t j r (by simpa using h);rw[lu,show (j+1)*3=j*3+1+1+1 by omega];exact ih
theorem Jc:∀(l:List Fl) (j:Nat) (f:Fl),j<l.length→(((uh l).set (j*3) (.bool f.1)).set (j*3+1) (.bool f.2.1)).set (j*3+2) (.bool f.2.2)=uh (l.set j f)
 | [],j,f,h=>by simp at h
 |x::t,0,f,_=>by
  rw[lu];show _=uh (f::t)
  rw[lu];rfl
 |x::t,j+1,f,h=>by
  have ih:=Jc t j f (by simpa using h);rw[lu,List.set_cons_succ,lu,←ih,show (j+1)*3=j*3+1+1+1 by omega];rfl
structure lH (w:World) (A:Option Addr) (n c:Nat) (l:List Fl):Prop where
 len:l.length=n
 cap:n≤c
 mx:c≤9223372036854775807
 at_:0<n→∃g o,A=some ⟨g,o,none⟩∧g<w.heap.size∧∀j f,l[j]? =some f→w.cell? ⟨g,o+j*3,none⟩=some (.bool f.1)∧w.cell? ⟨g,o+j*3+1,none⟩=some (.bool f.2.1)∧w.cell? ⟨g,o+j*3+2,none⟩=some (.bool f.2.2)
section
variable {w w':World} {A:Option Addr} {n c:Nat} {l:List Fl}
theorem lH.below (h:lH w A n c l) (hb:Below w.heap.size w w'):lH w' A n c l:=
 ⟨h.len,h.cap,h.mx,fun hn=>by
  obtain ⟨g,o,e,hg,hc⟩:=h.at_ hn;refine ⟨g,o,e,Nat.lt_of_lt_of_le hg hb.size,fun j f hj=> ?_⟩;obtain ⟨a,b,d⟩:=hc j f hj;exact ⟨(hb.cell (p:=⟨g,_,none⟩) hg).trans a,(hb.cell (p:=⟨g,_,none⟩) hg).trans b,(hb.cell (p:=⟨g,_,none⟩) hg).trans d⟩⟩
theorem lH.cK {base:Nat} {v:Value} (h:w.ownsRow base 174 3 v l.length (uh l)):∃A c,v= .slice A l.length c∧lH w A l.length c l:=by
 rcases h.2 with ⟨rfl,hn⟩|⟨g,cap,cur,rfl,hb,hg,hnc,hcm,hcs,ht⟩
 ·have:=List.eq_nil_of_length_eq_zero hn;subst this;exact ⟨none,0,rfl,rfl,Nat.zero_le _,by omega,fun h=>absurd h (by simp)⟩
 ·refine ⟨_,_,rfl,⟨rfl,hnc,by unfold maxLen at hcm;omega,fun _=>⟨g,0,rfl,lt_of_heap hg,fun j f hj=> ?_⟩⟩⟩;have hc:=fun j u (hu:(uh l)[j]? =some u)=>h.cells (g:=g) rfl j u hu
  obtain ⟨g1,g2,g3⟩:=wU l j f hj;have k1:=hc _ _ g1;have k2:=hc _ _ g2;have k3:=hc _ _ g3;rw[Addr.add_lit] at k1 k2 k3;rw[Nat.zero_add] at k1 k2 k3;rw[Nat.zero_add];exact ⟨k1,k2,k3⟩
theorem lH.drop {g o k:Nat} (h:lH w (some ⟨g,o,none⟩) n c l) (hk:k<n):lH w (some ⟨g,o+k*3,none⟩) (n-k) (c-k) (l.drop k):=by
 have hl:=h.len;have hc:=h.cap;have hm:=h.mx;refine ⟨by rw[List.length_drop];omega,by omega,by omega,fun _=> ?_⟩;obtain ⟨g',o',e,hb,hcl⟩:=h.at_ (by omega);cases e;refine ⟨g,_,rfl,hb,fun j f hj=> ?_⟩;rw[List.getElem?_drop] at hj;have:=hcl _ f hj
 rwa [show o+(k+j)*3=o+k*3+j*3 by omega] at this
end
def cB (p:Sp):Int:=match p.size with
 |none=> -1
 |some k=>(k:Int)
structure nX (w:World) (b:Nat) (p:Sp) (vf vd:Value):Prop where
 blk:au w b 165 #[vf,vd,.int .i64 (cB p)]
 fr:w.ownsRow 0 174 3 vf p.fl.length (uh p.fl)
 dr:w.ownsRow 0 5 1 vd p.da.length (bV p.da)
structure wF (p:Sp):Prop where
 ll:p.da.length=p.fl.length
 le:p.fl.length≤32767
 sz:∀k,p.size=some k→k≤32767
theorem wF.i {p:Sp} (h:wF p): -1≤cB p∧cB p≤32767:=by
 unfold cB;cases hs:p.size with
 |none=>simp
 |some k=>
  have:=h.sz k hs;dsimp only;omega
def J3 (c:Cf) (M:Nat) (vo:Value) (st:Rc):Array Value:=
 #[.int .i64 c.KY,.int .i64 c.byte,.int .i64 c.timer,.int .i64 c.reorder,.int .i64 c.gF,.int .i64 c.dz,.int .i64 c.cap,.map (some M),.int .i64 (st.next:Nat),.int .i64 (st.status:Nat),.int .i64 (st.high:Nat),.bool st.ro,.int .i64 (st.jB:Nat),.int .i64 st.exp,.bool st.due,.int .i64 st.CX,.int .i64 st.now,vo,.bool st.sm]
structure fV (w:World) (T:Nat→Nat) (g M n:Nat) (c:Cf) (st:Rc) (vo:Value):Prop where
 blk:au w g 130 (J3 c M vo st)
 tg:T g=1
 tM:T M=2
 lt:∀k,T k≠0→k<w.heap.size
 qU:w.ownsRow 0 5 1 vo st.op.length (bV st.op)
 od:∀k,vo.ownBlock=some k→T k=3
 mp:∃F,gN Tryz.prog 3 w M n F∧∀k,(st.m k=none→F k=none)∧∀p,st.m k=some p→∃b vf vd,F k=some (.pointer (some ⟨b,0,none⟩))∧nX w b p vf vd∧T b=3*k+4∧(∀j,vf.ownBlock=some j→T j=3*k+5)∧(∀j,vd.ownBlock=some j→T j=3*k+6)
def MT (T:Nat→Nat) (k:Nat) (_:Obj):Prop:=T k≠0
structure dH (st:Rc):Prop where
 n1:st.next≤1023
 n2:st.status≤1023
 n3:st.high≤1023
 n4:st.jB≤1023
 m:∀k p,st.m k=some p→k≤1023∧bX st k<512∧wF p
 op:st.op.length≤9000
 t1:0≤st.now
 t2:st.now≤9223372036854775807
section
variable {w w':World} {T:Nat→Nat} {g M n:Nat} {c:Cf} {st:Rc} {vo:Value}
theorem cO {base size m:Nat} {e:TypeId} {v:Value} {xs:List Value} (h:w.ownsRow base e size v m xs) (hk:∀k,v.ownBlock=some k→w'.heap[k]? =w.heap[k]?):w'.ownsRow base e size v m xs:=by
 rcases h.2 with ⟨rfl,h0⟩|⟨g',cap,cur,rfl,h1,h2,h3⟩
 ·exact ⟨h.1,.inl ⟨rfl,h0⟩⟩
 ·exact ⟨h.1,.inr ⟨g',cap,cur,rfl,h1,(hk g' rfl).trans h2,h3⟩⟩
theorem nX.stay {b:Nat} {p:Sp} {vf vd:Value} (h:nX w b p vf vd) (h0:w'.heap[b]? =w.heap[b]?) (h1:∀k,vf.ownBlock=some k→w'.heap[k]? =w.heap[k]?) (h2:∀k,vd.ownBlock=some k→w'.heap[k]? =w.heap[k]?):nX w' b p vf vd:=
 ⟨h0.trans h.blk,cO h.fr h1,cO h.dr h2⟩
theorem fV.stay (h:fV w T g M n c st vo) (hk:∀k,T k≠0→w'.heap[k]? =w.heap[k]?):fV w' T g M n c st vo:=by
 obtain ⟨F,h1,h2⟩:=h.mp;refine ⟨(hk g (by rw[h.tg];omega)).trans h.blk,h.tg,h.tM,fun k hf=> ?_,cO h.qU fun k e=>hk k (by rw[h.od k e];omega),h.od,F,h1.same (hk M (by rw[h.tM];omega)),fun k=>⟨(h2 k).1,fun p hp=> ?_⟩⟩
 ·have h3:=h.lt k hf;have h4:=hk k hf;rw[Array.getElem?_eq_getElem h3] at h4;exact lt_of_heap h4
 ·obtain ⟨b,vf,vd,e,hs,t1,t2,t3⟩:=(h2 k).2 p hp;exact ⟨b,vf,vd,e,hs.stay (hk b (by omega)) (fun j hj=>hk j (by rw[t2 j hj];omega)) (fun j hj=>hk j (by rw[t3 j hj];omega)),t1,t2,t3⟩
theorem fV.below (h:fV w T g M n c st vo) (hb:Below w.heap.size w w'):fV w' T g M n c st vo:=h.stay fun k hk=>hb.block k (h.lt k hk)
theorem fV.drew (h:fV w T g M n c st vo):fV w.drew T g M n c st vo:=h.below (Below.refl _ w).drew
theorem fV.drewN (h:fV w T g M n c st vo) (k:Nat):fV (w.drewN k) T g M n c st vo:=h.below ((Below.refl _ w).drewN k)
theorem fV.alloc (h:fV w T g M n c st vo) (o:Obj):fV (w.alloc o) T g M n c st vo:=h.below ((Below.refl _ w).alloc (Nat.le_refl _) o)
theorem fV.far {Q:Nat→Obj→Prop} (h:fV w T g M n c st vo) (hk:Kept Q w w') (hm:∀k o,Q k o→T k=0):fV w' T g M n c st vo:=
 h.stay fun k hf=>by
  have h1:=h.lt k hf;have h2:w.heap[k]? =some w.heap[k]:=Array.getElem?_eq_getElem h1;rw[h2];exact hk.same k _ h2 fun hM=>hf (hm k _ hM)
theorem fV.put (h:fV w T g M n c st vo) (i:Nat) (u:Value) {st':Rc} (he:(J3 c M vo st).setIfInBounds i u=J3 c M vo st') (hm:st'.m=st.m) (ho:st'.op=st.op):fV (w.setCell ⟨g,i,none⟩ u) T g M n c st' vo:=by
 have hk:∀k,T k≠1→(w.setCell ⟨g,i,none⟩ u).heap[k]? =w.heap[k]? :=fun k hk=>Below.heap_setCell w ⟨g,i,none⟩ u k (fun e=>by have e2:k=g:=e;rw[e2] at hk;exact hk h.tg)
 obtain ⟨F,h1,h2⟩:=h.mp;refine ⟨?_,h.tg,h.tM,fun k hf=>by simpa[World.setCell] using h.lt k hf,?_,h.od,F,h1.same (hk M (by rw[h.tM];omega)),fun k=>⟨by rw[hm];exact (h2 k).1,fun p hp=> ?_⟩⟩
 ·have:=h.blk.av i u;rw[he] at this;exact this
 ·rw[ho];exact cO h.qU fun k e=>hk k (by rw[h.od k e];omega)
 ·rw[hm] at hp;obtain ⟨b,vf,vd,e,hs,t1,t2,t3⟩:=(h2 k).2 p hp;exact ⟨b,vf,vd,e,hs.stay (hk b (by omega)) (fun j hj=>hk j (by rw[t2 j hj];omega)) (fun j hj=>hk j (by rw[t3 j hj];omega)),t1,t2,t3⟩
theorem fV.cell (h:fV w T g M n c st vo) (i:Nat):w.cell? ⟨g,i,none⟩=(J3 c M vo st)[i]? :=h.blk.cell i
theorem fV.cells (h:fV w T g M n c st vo):w.cell? ⟨g,3,none⟩=some (.int .i64 c.reorder)∧w.cell? ⟨g,4,none⟩=some (.int .i64 c.gF)∧w.cell? ⟨g,7,none⟩=some (.map (some M))∧w.cell? ⟨g,8,none⟩=some (.int .i64 (st.next:Nat))∧w.cell? ⟨g,9,none⟩=some (.int .i64 (st.status:Nat))∧w.cell? ⟨g,10,none⟩=some (.int .i64 (st.high:Nat))∧
 w.cell? ⟨g,11,none⟩=some (.bool st.ro)∧w.cell? ⟨g,12,none⟩=some (.int .i64 (st.jB:Nat))∧w.cell? ⟨g,13,none⟩=some (.int .i64 st.exp)∧w.cell? ⟨g,14,none⟩=some (.bool st.due)∧w.cell? ⟨g,15,none⟩=some (.int .i64 st.CX)∧w.cell? ⟨g,16,none⟩=some (.int .i64 st.now)∧w.cell? ⟨g,17,none⟩=some vo∧w.cell? ⟨g,18,none⟩=some (.bool st.sm):=
 ⟨h.blk.cell 3,h.blk.cell 4,h.blk.cell 7,h.blk.cell 8,h.blk.cell 9,h.blk.cell 10,h.blk.cell 11,h.blk.cell 12,h.blk.cell 13,h.blk.cell 14,h.blk.cell 15,h.blk.cell 16,h.blk.cell 17,h.blk.cell 18⟩
end
end
section
open Go.RowKit Go.Shelf
attribute [local go_sem] Oper.semAt_some
theorem pQ (n:Int):bits .and .i64 n 1023=n%1024:=by
 have h127:(BitVec.ofInt 64 1023).toNat=2 ^ 10-1:=by decide
 have key:(BitVec.ofInt 64 n&&& BitVec.ofInt 64 1023).toNat=(n%((2 ^ 64:Nat):Int)).toNat%2 ^ 10:=by
  rw[BitVec.toNat_and,BitVec.toNat_ofInt,h127,Nat.and_two_pow_sub_one_eq_mod]
 show IntKind.i64.wrap ((BitVec.ofInt 64 n&&& BitVec.ofInt 64 1023).toNat:Nat)=n%1024
 rw[key,IntKind.wrap_i64];omega
section
variable {w w':World} {T:Nat→Nat} {g M n:Nat} {c:Cf} {st:Rc} {vo:Value}
set_option maxRecDepth 100000 in
theorem mX (h:fV w T g M n c st vo):Calls Tryz.prog 79 #[.pointer (some ⟨g,0,none⟩)] w fun e w'=>e= .returned (.bool false)∧w=w':=by
 have x7:=h.cells.2.2.1;have q:∀(w:World) (r:Option Nat),(binOp .eql 128 (.map r) (.map none)).run Tryz.prog w= .ok (.bool r.isNone) w:=fun w r=>run_eql_map_nil w _ _ _ r wT
 clear h;go_enter Tryz.func79,Tryz.ntmps79;go_wp2;go_ret;exact ⟨rfl,rfl⟩
theorem vP (w:World) (next sn:Nat) (h:w.cell? ⟨g,8,none⟩=some (.int .i64 (next:Nat))) (hn:next≤1023) (hs:sn≤1023):
 Calls Tryz.prog 97 #[.pointer (some ⟨g,0,none⟩),.int .i64 sn] w fun e w'=>e= .returned (.int .i64 ((sn+1024-next)%1024:Nat))∧w=w':=by
 have hand:bits BinOp.and IntKind.i64 ((sn:Int)-next) 1023=(((sn+1024-next)%1024:Nat):Int):=by rw[pQ];omega
 go_enter Tryz.func97,Tryz.ntmps97;go_wp2;go_ret;exact ⟨rfl,rfl⟩
theorem yC (h:fV w T g M n c st vo) (ho:dH st) (sn:Nat) (hs:sn≤1023):
 Calls Tryz.prog 97 #[.pointer (some ⟨g,0,none⟩),.int .i64 sn] w fun e w'=>e= .returned (.int .i64 (bX st sn:Nat))∧w=w':=
 vP w st.next sn h.cells.2.2.2.1 ho.n1 hs
theorem nY (er:Int) (w:World):Calls Tryz.prog 96 #[.bool true,.int .i64 er] w fun e w'=>e= .returned (.tuple #[])∧w=w':=by
 go_enter Tryz.func96,Tryz.ntmps96;go_wp2
 go_end0
 exact ⟨rfl,rfl⟩
abbrev C5 (er:Int):Ending:= .panicked [{v:= .iface 53 (.int .i64 er),recovered:=false}]
theorem lW (er:Int) (w:World):Calls Tryz.prog 96 #[.bool false,.int .i64 er] w fun e w'=>e=C5 er∧w=w':=by
 unfold C5;go_enter Tryz.func96,Tryz.ntmps96;go_wp2;exact ⟨rfl,rfl,rfl⟩
end
section
variable {w:World} {A:Option Addr} {n c:Nat} {l:List Fl}
theorem yD (h:lH w A n c l) (at_:Nat) (hat:at_≤100000) (which:Nat) (hw:which<3):
 Calls Tryz.prog 156 #[.slice A n c,.int .i64 at_,.int .i64 which] w fun e w'=>e= .returned (.bool (if which=0 then (fJ l at_).1 else if which=1 then (fJ l at_).2.1 else (fJ l at_).2.2))∧w=w':=by
 have hcap:=h.cap;have hmx:=h.mx;have hlen:=h.len;by_cases hlt:at_<n
 ·obtain ⟨g,o,rfl,hg,hc⟩:=h.at_ (by omega);obtain ⟨f,hf⟩:∃f,l[at_]? =some f:=⟨_,List.getElem?_eq_getElem (by omega)⟩
  obtain ⟨k0,k1,k2⟩:=hc at_ f hf;rw[Bo hf];clear hc h hf hlen;obtain rfl|rfl|rfl:which=0∨which=1∨which=2:=by omega
  all_goals
   go_enter Tryz.func156,Tryz.ntmps156;go_wp2;go_ret;exact ⟨rfl,rfl⟩
 ·have hf:fJ l at_=RN:=by unfold fJ;rw[List.getElem?_eq_none (by omega)];rfl
  rw[hf];clear h hf hlen;obtain rfl|rfl|rfl:which=0∨which=1∨which=2:=by omega
  all_goals
   go_enter Tryz.func156,Tryz.ntmps156;go_wp2;go_ret;exact ⟨rfl,rfl⟩
theorem J4 {l:List Fl} {k:Nat} {f:Fl} (hf:l[k]? =some f):pN (l.take (k+1))=pN (l.take k)+f.1.toNat:=by
 unfold pN;rw[List.take_add_one,hf];simp
set_option maxHeartbeats 400000 in
theorem G7 (h:lH w A n c l) (hn:n≤100000):
 Calls Tryz.prog 162 #[.slice A n c] w fun e w'=>e= .returned (.int .i64 (pN l:Nat))∧Below w.heap.size w w':=by
 have hcap:=h.cap;have hmx:=h.mx;have HH:=Lib.hid h;have hlen:=h.len;clear h;go_enter Tryz.func162,Tryz.ntmps162;go_wp2
 go_loopw [2,7] (fun s i wr=>∃k:Nat,k≤n∧i= .int .i64 k∧s= .int .i64 (pN (l.take k):Nat)∧Below w.heap.size w wr) (fun _ i _=>n-(intOf i).toNat)
 case atStart=>exact ⟨0,Nat.zero_le _,rfl,rfl,Below.refl _ w⟩
 case round=>
  obtain ⟨k,hk,rfl,rfl,hb⟩:=hrel;by_cases hlt:k<n
  ·obtain ⟨g,o,rfl,hg,hc⟩:=(HH.out.below hb).at_ (by omega);obtain ⟨f,hf⟩:∃f,l[k]? =some f:=⟨_,List.getElem?_eq_getElem (by omega)⟩
   obtain ⟨k0,k1,k2⟩:=hc k f hf;have hle:=wS (l.take k);rw[List.length_take] at hle;have ht:=J4 hf;obtain ⟨fg,fs,fe⟩:=f;dsimp only at k0 k1 k2 ht;generalize pN (l.take k)=S at*;have HT:=Lib.hid ht;have HB:=Lib.hid (hb.alloc hb.size (.cells #[.bool fg,.bool fs,.bool fe] 174));clear hc ht hf hb;cases fg with
   |true=>
    go_wp2
    go_round
    case rel=>exact ⟨k+1,by omega,by go_num,by rw[HT.out];go_num,HB.out⟩
    case measure=>simp[intOf];omega
   |false=>
    go_wp2
    go_round
    case rel=>exact ⟨k+1,by omega,by go_num,by rw[HT.out];go_num,HB.out⟩
    case measure=>simp[intOf];omega
  ·have e:l.take k=l:=List.take_of_length_le (by omega);rw[e];have HB:=Lib.hid hb;clear e hb;go_wp2;go_ret;exact ⟨rfl,HB.out⟩
end
end
section
open Go.RowKit Go.Shelf
attribute [local go_sem] Oper.semAt_some
section
variable {w w':World} {T:Nat→Nat} {g M n:Nat} {c:Cf} {st:Rc} {vo:Value}
theorem rC (w:World):Calls Tryz.prog 117 #[.pointer none] w fun e w'=>e= .returned (.bool false)∧Below w.heap.size w w':=by
 go_enter Tryz.func117,Tryz.ntmps117;go_wp2_with fail
 go_quiet (fail)
 go_wp2_with fail;go_ret;exact ⟨rfl,(Below.refl _ w).drewN nq⟩
set_option maxHeartbeats 400000 in
theorem rD {b:Nat} {p:Sp} {vf vd:Value} (h:nX w b p vf vd) (ho:wF p):
 Calls Tryz.prog 117 #[.pointer (some ⟨b,0,none⟩)] w fun e w'=>e= .returned (.bool (lq p))∧Below w.heap.size w w':=by
 obtain ⟨x0,x1,x2⟩:w.cell? ⟨b,0,none⟩=some vf∧w.cell? ⟨b,1,none⟩=some vd∧w.cell? ⟨b,2,none⟩=some (.int .i64 (cB p)):=⟨h.blk.cell 0,h.blk.cell 1,h.blk.cell 2⟩;have hbl:=h.blk.lt;have hi:=ho.i;obtain ⟨A,cc,rfl,hs⟩:=lH.cK h.fr;have hle:=ho.le;have hcnt:∀W,Below w.heap.size w W→Calls Tryz.prog 162 #[.slice A p.fl.length cc] W fun e w'=>e= .returned (.int .i64 (pN p.fl:Nat))∧Below w.heap.size w w':=fun W hW=>
  (G7 (hs.below hW) (by omega)).mono fun e w' hh=>⟨hh.1,hW.trans (hh.2.mono hW.size)⟩
 have HC:=Lib.hid hcnt;have hgl:=wS p.fl;by_cases hz:0<cB p
 ·have d1:decide (cB p>0)=true:=by simpa using hz
  have hb0:=Below.refl w.heap.size w;have hres:(((pN p.fl:Nat):Int)==cB p)=lq p:=by
   unfold cB at hz ⊢;unfold lq;cases hs2:p.size with
   |none=>rw[hs2] at hz;simp at hz
   |some k=>
    rw[hs2] at hz;dsimp only at hz ⊢;rw[decide_eq_true (show 0<k by omega),Bool.true_and];by_cases e:pN p.fl=k
    ·rw[e];simp
    ·rw[decide_eq_false e];simp;omega
  have ab6:=Lib.hid hres;have C6:=Lib.hid hi;clear hres h hcnt hz hs ho;generalize cB p=S at*;generalize pN p.fl=G at*;go_enter Tryz.func117,Tryz.ntmps117;go_wp2_with fail
  go_region_held3 (fun W=>W.cell? ⟨b,0,none⟩=some (.slice A p.fl.length cc)∧W.cell? ⟨b,2,none⟩=some (.int .i64 S))
   (first|exact ⟨x0,x2⟩|exact ⟨(hb1.cell (p:=⟨b,0,none⟩) hbl).trans x0,(hb1.cell (p:=⟨b,2,none⟩) hbl).trans x2⟩|go_keep)
   (first
    |(go_at_call 162;refine (HC.out _ (by (repeat first|assumption|refine Below.drew ?_|refine Below.drewN ?_ _))).mono ?_;rintro e1 w1 ⟨rfl,hb1⟩)
    |fail)
  all_goals
   go_wp2_with fail;go_ret;exact ⟨by rw[←ab6.out];rfl,by assumption⟩
 ·have d1:decide (cB p>0)=false:=by simpa using hz
  have hres:lq p=false:=by
   unfold cB at hz;unfold lq;cases hs2:p.size with
   |none=>rfl
   |some k=>
    rw[hs2] at hz;dsimp only at hz ⊢;rw[decide_eq_false (show ¬0<k by omega)];rfl
  rw[hres];clear hres h hcnt hz hs ho hi;generalize cB p=S at*;go_enter Tryz.func117,Tryz.ntmps117;go_wp2_with fail
  go_quiet (fail)
  go_wp2_with fail;go_ret;exact ⟨rfl,(Below.refl _ w).drewN nq⟩
theorem fV.look (h:fV w T g M n c st vo) {k:Nat} (hk:k≤1023):∃v,(Instr.lookup 128 (.map (some M)) (.int .i64 k) false).run Tryz.prog w= .ok v w∧((st.m k=none∧v= .pointer none)∨∃p b vf vd,st.m k=some p∧v= .pointer (some ⟨b,0,none⟩)∧nX w b p vf vd∧T b=3*k+4∧(∀j,vf.ownBlock=some j→T j=3*k+5)∧(∀j,vd.ownBlock=some j→T j=3*k+6)):=by
 obtain ⟨F,h1,h2⟩:=h.mp;refine ⟨(F k).getD (.pointer none),h1.XF sS wT (GY w) (by omega),?_⟩;cases hm:st.m k with
 |none=>exact .inl ⟨rfl,by rw[(h2 k).1 hm];rfl⟩
 |some p=>
  obtain ⟨b,vf,vd,e,hs,t1,t2,t3⟩:=(h2 k).2 p hm;exact .inr ⟨p,b,vf,vd,rfl,by rw[e];rfl,hs,t1,t2,t3⟩
theorem fV.XG (h:fV w T g M n c st vo) (ho:dH st) {k:Nat} (hk:k≤1023):∃v,(Instr.lookup 128 (.map (some M)) (.int .i64 k) false).run Tryz.prog w= .ok v w∧
 Calls Tryz.prog 117 #[v] w fun e w'=>e= .returned (.bool (fO (st.m k)))∧Below w.heap.size w w':=by
 obtain ⟨v,hr,⟨hm,rfl⟩|⟨p,b,vf,vd,hm,rfl,hs,_⟩⟩:=h.look hk
 ·refine ⟨_,hr,?_⟩;rw[hm];exact rC w
 ·refine ⟨_,hr,?_⟩;rw[hm];exact rD hs (ho.m k p hm).2.2
theorem dH.stops (ho:dH st) {sn:Nat} (hs:sn≤1023):∃j,j<1024∧fO (st.m ((sn+j)%1024))=false:=by
 refine ⟨((st.next+512)%1024+1024-sn)%1024,by omega,?_⟩;have hn:=ho.n1;rw[show (sn+((st.next+512)%1024+1024-sn)%1024)%1024=(st.next+512)%1024 by omega];cases hm:st.m ((st.next+512)%1024) with
 |none=>rfl
 |some p=>
  have:=(ho.m _ p hm).2.1;unfold bX at this;omega
theorem sU (m:Nat→Option Sp):∀(f sn:Nat),sn≤1023→pO m f sn≤1023
 |0,_,h=>h
 |f+1,sn,h=>by
  unfold pO;split
  ·exact sU m f _ (by unfold fD;omega)
  ·exact h
set_option maxHeartbeats 400000 in
theorem Bp (h:fV w T g M n c st vo) (ho:dH st) (sn:Nat) (hs:sn≤1023):
 Calls Tryz.prog 99 #[.pointer (some ⟨g,0,none⟩),.int .i64 sn] w fun e w'=>e= .returned (.int .i64 (pO st.m 1024 sn:Nat))∧Below w.heap.size w w':=by
 obtain ⟨R,hR⟩:∃R,R=pO st.m 1024 sn:=⟨_,rfl⟩
 rw[←hR];have HH:=Lib.hid h;have HO:=Lib.hid ho;have HR:=Lib.hid hR;have HST:=Lib.hid (ho.stops hs);clear h ho hR;go_enter Tryz.func99,Tryz.ntmps99;go_wp2;go_loopg [1] 1024 (fun gk s1 wr=>∃(k j:Nat),s1= .int .i64 (k:Nat)∧k≤1023∧Below w.heap.size w wr∧R=pO st.m gk k∧j<gk∧fO (st.m ((k+j)%1024))=false)
 case atStart=>
  obtain ⟨j,h1,h2⟩:=HST.out;exact ⟨sn,j,rfl,hs,Below.refl _ w,HR.out,h1,h2⟩
 case round=>
  obtain ⟨k,j,rfl,hk,hb,hr,hj,hst⟩:=hrel;have hA:=HH.out.below hb;have x7:=hA.cells.2.2.1;obtain ⟨v,hl,hc⟩:=hA.XG HO.out hk;obtain ⟨f,rfl⟩:∃f,gk=f+1:=⟨gk-1,by omega⟩
  unfold pO at hr;have HC:=Lib.hid hc;have HB:=Lib.hid hb;cases hcm:fO (st.m k) with
  |true=>
   rw[hcm] at HC;rw[hcm,if_pos rfl] at hr;have hj0:j≠0:=fun e=>by
    rw[e,Nat.add_zero,Nat.mod_eq_of_lt (by omega),hcm] at hst;cases hst
   have EG:fO (st.m ((fD k+(j-1))%1024))=false:=by
    unfold fD;rw[show ((k+1)%1024+(j-1))%1024=(k+j)%1024 by omega];exact hst
   have hand:bits BinOp.and IntKind.i64 ((k:Int)+1) 1023=((fD k:Nat):Int):=by rw[pQ];unfold fD;omega
   have hup:fD k≤1023:=by unfold fD;omega
   have HRR:=Lib.hid hr;have HS2:=Lib.hid EG;have HJ:=Lib.hid hj;have XH:=Lib.hid hj0;clear hA hc hb hr hst EG hcm hj hj0;generalize fD k=q at*;go_wp2_with fail;refine HC.out.mono ?_;rintro e1 w1 ⟨rfl,hb1⟩;go_wp2
   go_roundg f
   case measure=>omega
   case rel=>exact ⟨q,j-1,rfl,hup,HB.out.trans (hb1.mono HB.out.size),HRR.out,by have:=HJ.out;have:=XH.out;omega,HS2.out⟩
  |false=>
   rw[hcm] at HC;rw[hcm,if_neg (by simp)] at hr;have HRR:=Lib.hid hr;clear hA hc hb hr hst hcm hj;go_wp2_with fail;refine HC.out.mono ?_;rintro e1 w1 ⟨rfl,hb1⟩;go_wp2;go_ret;exact ⟨by rw[HRR.out];rfl,HB.out.trans (hb1.mono HB.out.size)⟩
theorem pR {w w':World} {T:Nat→Nat} (h:Below w.heap.size w w'):Kept (MT T) w w':=(Kept.of_below h).fA fun k o ho hm=>by have:=lt_of_heap ho;omega
set_option maxHeartbeats 1000000 in
theorem yE (h:fV w T g M n c st vo) (ho:dH st) (_hc1:0≤c.reorder) (_hc2:c.reorder≤9223372036854775807):
 Calls Tryz.prog 101 #[.pointer (some ⟨g,0,none⟩)] w fun e w'=>e= .returned (.tuple #[])∧fV w' T g M n c (uS c st) vo∧Kept (MT T) w w':=by
 obtain ⟨x3,x4,x7,x8,x9,x10,uG,El,Ot,Bq,PN,Ov,Mq,x18⟩:=h.cells;have f11:=h.blk.frozen 11;have f12:=h.blk.frozen 12;have f13:=h.blk.frozen 13;have hn1:=ho.t1;have hn2:=ho.t2;have HH:=Lib.hid h;clear h ho x4 x7 x8 x9 Bq PN Mq x18;go_enter Tryz.func101,Tryz.ntmps101;go_wp2_with fail
 go_region
 all_goals
  go_wp2_with fail
  go_end0
  have h1:=HH.out.put 11 (.bool true) (st':= {st with ro:=true}) rfl rfl rfl;have h2:=h1.put 12 (.int .i64 (st.high:Nat)) (st':= {st with ro:=true,jB:=st.high}) rfl rfl rfl;have h3:=h2.put 13 (.int .i64 (IntKind.i64.wrap (st.now+c.reorder))) (st':= {st with ro:=true,jB:=st.high,exp:=IntKind.i64.wrap (st.now+c.reorder)}) rfl rfl rfl;rw[show wrap64 (st.now+c.reorder)=IntKind.i64.wrap (st.now+c.reorder) by rw[IntKind.wrap_i64];unfold wrap64;rfl];have ht:∀o:Obj,MT T g o:=fun o=>by unfold MT;rw[HH.out.tg];omega
  exact ⟨rfl,h3.drew,(((Kept.refl _ w).setCell (p:=⟨g,11,none⟩) (fun o _=>ht o) _).setCell (p:=⟨g,12,none⟩) (fun o _=>ht o) _).setCell (p:=⟨g,13,none⟩) (fun o _=>ht o) _ |>.drew⟩
end
end
end Go.Proofs.YtbhiklnljiehiaaGreat
