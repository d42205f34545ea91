/- amrecv: storing bytes; delivering a whol. -/
import Derived.Test.YtbhiklnljiehiaaGreatM2ak
import Derived.Test.YtbhiklnljiehiaaGreatM2al
import Derived.Test.YtbhiklnljiehiaaGreatM2am
import Derived.Test.YtbhiklnljiehiaaGreatM2an
namespace Go.Proofs.YtbhiklnljiehiaaGreat
section
structure ZY (F:List (Fl × UInt8)) (x:List Fl × List UInt8):Prop where
 ll:x.2.length=x.1.length
 le:x.1.length≤F.length
 eq:∀(i:Nat) (f:Fl) (b:UInt8),x.1[i]? =some f→x.2[i]? =some b→f.1=true→F[i]? =some (f,b)
theorem Cy {l:List Fl} {i:Nat} {f:Fl} (h:l[i]? =some f):fQ l i=f:=by unfold fQ;rw[h];rfl
theorem qO:∀(l:List (Fl × UInt8)) (a:Nat) (x:List Fl × List UInt8),(Cw l a x).1.length=x.1.length∧(Cw l a x).2.length=x.2.length
 | [],_,_=>⟨rfl,rfl⟩
 |(f,b)::r,a,x=>by
  unfold Cw;have h:=qO r (a+1) (if (fQ x.1 a).1=true then x else (x.1.set a f,x.2.set a b));rw[h.1,h.2];split<;>simp
theorem Ea:∀(l m:List (Fl × UInt8)) (a:Nat) (x:List Fl × List UInt8),Cw (l++m) a x=Cw m (a+l.length) (Cw l a x)
 | [],_,_,_=>rfl
 |(f,b)::r,m,a,x=>by
  rw[List.cons_append,Cw,Cw,Ea r m,List.length_cons,show a+1+r.length=a+(r.length+1) by omega]
theorem KL {F:List (Fl × UInt8)}:∀(l:List (Fl × UInt8)) (a:Nat) (x:List Fl × List UInt8),ZY F x→(∀(j:Nat) z,l[j]? =some z→F[a+j]? =some z)→ZY F (Cw l a x)
 | [],_,_,h,_=>h
 |(f,b)::r,a,x,h,hl=>by
  unfold Cw;refine KL r (a+1) _ ?_ (fun j z hj=>by have:=hl (j+1) z (by simpa using hj);rwa [show a+(j+1)=a+1+j by omega] at this);split
  ·exact h
  ·refine ⟨by simpa using h.ll,by simpa using h.le,fun i g c hg hc ht=> ?_⟩;dsimp only at hg hc;rw[List.getElem?_set] at hg hc;by_cases hi:a=i
   ·subst hi;have h0:=hl 0 (f,b) rfl;rw[Nat.add_zero] at h0;rw[if_pos rfl] at hg hc;split at hg
    ·split at hc
     ·cases hg;cases hc;exact h0
     ·cases hc
    ·cases hg
   ·rw[if_neg hi] at hg hc;exact h.eq i g c hg hc ht
theorem WC {F:List (Fl × UInt8)} {p:Sp} {k:Nat} (h:ZY F (p.fl,p.da)) (hk:k≤F.length):ZY F (jY k p.fl,oC k p.da):=by
 have h1:=h.ll;have h2:=h.le;dsimp only at h1 h2;refine ⟨by simp[jY,oC,h1],by simp[jY];omega,fun i f b hf hb ht=> ?_⟩;simp only[jY,oC] at hf hb;rw[List.getElem?_append] at hf hb;rw[h1] at hb;split at hf
 ·rename_i hlt;rw[if_pos hlt] at hb;exact h.eq i f b hf hb ht
 ·rw[List.getElem?_replicate] at hf;split at hf
  ·cases hf;simp[UR] at ht
  ·cases hf
theorem vT (p:List UInt8) (a b:Bool):(rF p a b).length=p.length:=by simp[rF]
theorem L9 (p:List UInt8) (a b:Bool) (j:Nat):(rF p a b)[j]? =p[j]?.map (fun x=>((true,decide (j=0)&&a,decide (j+1=p.length)&&b),x)):=by simp[rF]
theorem sG (s e:Bool) (n:Nat):∀(i:Nat) (ps:List (List UInt8)),(gZ s e n i ps).length=aj ps
 |_,[]=>rfl
 |i,p::r=>by
  rw[gZ,List.length_append,vT,sG s e n (i+1) r];simp[aj]
theorem Ma (f:Fl) (l:List Fl):qg (f::l)=f.1.toNat+qg l:=by simp[qg]
theorem xX:∀l:List Fl,qg l≤l.length
 | []=>by simp[qg]
 |f::l=>by
  have:=xX l;rw[Ma,List.length_cons];cases f.1<;>simp<;>omega
end
section
open Go.RowKit Go.Maps
theorem xY:Tryz.prog.underlying 128=some (.map 3 161):=by kernel_rfl
theorem uw:Tryz.prog.underlying 3=some (.int .i64):=by kernel_rfl
theorem Jh (w:World):(zeroValue 161).run Tryz.prog w= .ok (.pointer none) w:=by kernel_rfl
section
variable {P:Program} {t k e:TypeId} {w w':World} {b n:Nat} {F:Nat→Option Value}
theorem iq.ZZ (h:iq P k w b n F) (hk:P.underlying k=some (.int .i64)) (ht:P.underlying t=some (.map k e)) {z:Value} (hz:(zeroValue e).run P w= .ok z w) {j:Nat} (hj:j≤9223372036854775807):
 (Instr.lookup t (.map (some b)) (.int .i64 j) false).run P w= .ok ((F j).getD z) w:=by
 obtain ⟨D,h1,_,h2⟩:=h;obtain ⟨v,ps,hr,hv⟩:=h1.lookup (zd:= .held z) (zp:= []) (int_keyed hk) ht hz rfl (keyOf_int_mk hk (Ec hj));obtain ⟨e1,e2⟩:=h2 j hj;rw[hr];simp only[OY,Option.some.injEq,Prod.mk.injEq] at hv;cases hF:F j with
 |none=>
  rw[hF] at e1;have:=Maps.atKey_of_not_has (by simpa using e1) (.held z);rw[this] at hv;cases hv.1;rfl
 |some u=>
  rw[e2 u hF] at hv;cases hv.1;rfl
end
def uZ (l:List Fl):List Value:=l.flatMap (fun f=> [.bool f.1,.bool f.2.1,.bool f.2.2])
theorem lN (f:Fl) (l:List Fl):uZ (f::l)= .bool f.1:: .bool f.2.1:: .bool f.2.2::uZ l:=by simp[uZ]
theorem Ji (l:List Fl):(uZ l).length=l.length*3:=by
 induction l with
 |nil=>rfl
 |cons r t ih=>
  rw[lN];simp only[List.length_cons,ih];omega
theorem Ss (a b:List Fl):uZ (a++b)=uZ a++uZ b:=by simp[uZ]
theorem xZ:∀(l:List Fl) (j:Nat) (f:Fl),l[j]? =some f→(uZ l)[j*3]? =some (.bool f.1)∧(uZ l)[j*3+1]? =some (.bool f.2.1)∧(uZ l)[j*3+2]? =some (.bool f.2.2)
 | [],j,r,h=>by simp at h
 |x::t,0,r,h=>by
  simp at h;subst h;rw[lN];exact ⟨rfl,rfl,rfl⟩
 |x::t,j+1,r,h=>by
  have ih:=xZ t j r (by simpa using h);rw[lN,show (j+1)*3=j*3+1+1+1 by omega];exact ih
theorem KM:∀(l:List Fl) (j:Nat) (f:Fl),j<l.length→(((uZ l).set (j*3) (.bool f.1)).set (j*3+1) (.bool f.2.1)).set (j*3+2) (.bool f.2.2)=uZ (l.set j f)
 | [],j,f,h=>by simp at h
 |x::t,0,f,_=>by
  rw[lN];show _=uZ (f::t)
  rw[lN];rfl
 |x::t,j+1,f,h=>by
  have ih:=KM t j f (by simpa using h);rw[lN,List.set_cons_succ,lN,←ih,show (j+1)*3=j*3+1+1+1 by omega];rfl
structure lV (w:World) (A:Option Addr) (n c:Nat) (l:List Fl):Prop where
 len:l.length=n
 cap:n≤c
 mx:c≤9223372036854775807
 at_:0<n→∃g o,A=some ⟨g,o,none⟩∧g<w.heap.size∧∀j f,l[j]? =some f→w.cell? ⟨g,o+j*3,none⟩=some (.bool f.1)∧w.cell? ⟨g,o+j*3+1,none⟩=some (.bool f.2.1)∧w.cell? ⟨g,o+j*3+2,none⟩=some (.bool f.2.2)
section
variable {w w':World} {A:Option Addr} {n c:Nat} {l:List Fl}
theorem lV.below (h:lV w A n c l) (hb:Below w.heap.size w w'):lV w' A n c l:=
 ⟨h.len,h.cap,h.mx,fun hn=>by
  obtain ⟨g,o,e,hg,hc⟩:=h.at_ hn;refine ⟨g,o,e,Nat.lt_of_lt_of_le hg hb.size,fun j f hj=> ?_⟩;obtain ⟨a,b,d⟩:=hc j f hj;exact ⟨(hb.cell (p:=⟨g,_,none⟩) hg).trans a,(hb.cell (p:=⟨g,_,none⟩) hg).trans b,(hb.cell (p:=⟨g,_,none⟩) hg).trans d⟩⟩
theorem lV.cB {base:Nat} {v:Value} (h:w.ownsRow base 174 3 v l.length (uZ l)):∃A c,v= .slice A l.length c∧lV w A l.length c l:=by
 rcases h.2 with ⟨rfl,hn⟩|⟨g,cap,cur,rfl,hb,hg,hnc,hcm,hcs,ht⟩
 ·have:=List.eq_nil_of_length_eq_zero hn;subst this;exact ⟨none,0,rfl,rfl,Nat.zero_le _,by omega,fun h=>absurd h (by simp)⟩
 ·refine ⟨_,_,rfl,⟨rfl,hnc,by unfold maxLen at hcm;omega,fun _=>⟨g,0,rfl,lt_of_heap hg,fun j f hj=> ?_⟩⟩⟩;have hc:=fun j u (hu:(uZ l)[j]? =some u)=>h.cells (g:=g) rfl j u hu
  obtain ⟨g1,g2,g3⟩:=xZ l j f hj;have k1:=hc _ _ g1;have k2:=hc _ _ g2;have k3:=hc _ _ g3;rw[Addr.add_lit] at k1 k2 k3;rw[Nat.zero_add] at k1 k2 k3;rw[Nat.zero_add];exact ⟨k1,k2,k3⟩
theorem lV.drop {g o k:Nat} (h:lV w (some ⟨g,o,none⟩) n c l) (hk:k<n):lV w (some ⟨g,o+k*3,none⟩) (n-k) (c-k) (l.drop k):=by
 have hl:=h.len;have hc:=h.cap;have hm:=h.mx;refine ⟨by rw[List.length_drop];omega,by omega,by omega,fun _=> ?_⟩;obtain ⟨g',o',e,hb,hcl⟩:=h.at_ (by omega);cases e;refine ⟨g,_,rfl,hb,fun j f hj=> ?_⟩;rw[List.getElem?_drop] at hj;have:=hcl _ f hj
 rwa [show o+(k+j)*3=o+k*3+j*3 by omega] at this
end
def dx (p:Sp):Int:=match p.size with
 |none=> -1
 |some k=>(k:Int)
structure oD (w:World) (b:Nat) (p:Sp) (vf vd:Value):Prop where
 blk:au w b 165 #[vf,vd,.int .i64 (dx p)]
 fr:w.ownsRow 0 174 3 vf p.fl.length (uZ p.fl)
 dr:w.ownsRow 0 5 1 vd p.da.length (bO p.da)
structure xH (p:Sp):Prop where
 ll:p.da.length=p.fl.length
 le:p.fl.length≤32767
 sz:∀k,p.size=some k→k≤32767
theorem xH.i {p:Sp} (h:xH p): -1≤dx p∧dx p≤32767:=by
 unfold dx;cases hs:p.size with
 |none=>simp
 |some k=>
  have:=h.sz k hs;dsimp only;omega
def Mb (c:Cf) (M:Nat) (vo:Value) (st:Rc):Array Value:=
 #[.int .i64 c.Ny,.int .i64 c.byte,.int .i64 c.timer,.int .i64 c.reorder,.int .i64 c.gP,.int .i64 c.dM,.int .i64 c.cap,.map (some M),.int .i64 (st.next:Nat),.int .i64 (st.status:Nat),.int .i64 (st.high:Nat),.bool st.ro,.int .i64 (st.jM:Nat),.int .i64 st.exp,.bool st.due,.int .i64 st.D8,.int .i64 st.now,vo,.bool st.sm]
structure gI (w:World) (T:Nat→Nat) (g M n:Nat) (c:Cf) (st:Rc) (vo:Value):Prop where
 blk:au w g 130 (Mb c M vo st)
 tg:T g=1
 tM:T M=2
 lt:∀k,T k≠0→k<w.heap.size
 rX:w.ownsRow 0 5 1 vo st.op.length (bO st.op)
 od:∀k,vo.ownBlock=some k→T k=3
 mp:∃F,iq Tryz.prog 3 w M n F∧∀k,(st.m k=none→F k=none)∧∀p,st.m k=some p→∃b vf vd,F k=some (.pointer (some ⟨b,0,none⟩))∧oD w b p vf vd∧T b=3*k+4∧(∀j,vf.ownBlock=some j→T j=3*k+5)∧(∀j,vd.ownBlock=some j→T j=3*k+6)
def MT (T:Nat→Nat) (k:Nat) (_:Obj):Prop:=T k≠0
structure dP (st:Rc):Prop where
 n1:st.next≤1023
 n2:st.status≤1023
 n3:st.high≤1023
 n4:st.jM≤1023
 m:∀k p,st.m k=some p→k≤1023∧cO st k<512∧xH p
 op:st.op.length≤9000
 t1:0≤st.now
 t2:st.now≤9223372036854775807
section
variable {w w':World} {T:Nat→Nat} {g M n:Nat} {c:Cf} {st:Rc} {vo:Value}
theorem bX {base size m:Nat} {e:TypeId} {v:Value} {xs:List Value} (h:w.ownsRow base e size v m xs) (hk:∀k,v.ownBlock=some k→w'.heap[k]? =w.heap[k]?):w'.ownsRow base e size v m xs:=by
 rcases h.2 with ⟨rfl,h0⟩|⟨g',cap,cur,rfl,h1,h2,h3⟩
 ·exact ⟨h.1,.inl ⟨rfl,h0⟩⟩
 ·exact ⟨h.1,.inr ⟨g',cap,cur,rfl,h1,(hk g' rfl).trans h2,h3⟩⟩
theorem oD.stay {b:Nat} {p:Sp} {vf vd:Value} (h:oD w b p vf vd) (h0:w'.heap[b]? =w.heap[b]?) (h1:∀k,vf.ownBlock=some k→w'.heap[k]? =w.heap[k]?) (h2:∀k,vd.ownBlock=some k→w'.heap[k]? =w.heap[k]?):oD w' b p vf vd:=
 ⟨h0.trans h.blk,bX h.fr h1,bX h.dr h2⟩
theorem gI.stay (h:gI w T g M n c st vo) (hk:∀k,T k≠0→w'.heap[k]? =w.heap[k]?):gI w' T g M n c st vo:=by
 obtain ⟨F,h1,h2⟩:=h.mp;refine ⟨(hk g (by rw[h.tg];omega)).trans h.blk,h.tg,h.tM,fun k hf=> ?_,bX h.rX fun k e=>hk k (by rw[h.od k e];omega),h.od,F,h1.same (hk M (by rw[h.tM];omega)),fun k=>⟨(h2 k).1,fun p hp=> ?_⟩⟩
 ·have h3:=h.lt k hf;have h4:=hk k hf;rw[Array.getElem?_eq_getElem h3] at h4;exact lt_of_heap h4
 ·obtain ⟨b,vf,vd,e,hs,t1,t2,t3⟩:=(h2 k).2 p hp;exact ⟨b,vf,vd,e,hs.stay (hk b (by omega)) (fun j hj=>hk j (by rw[t2 j hj];omega)) (fun j hj=>hk j (by rw[t3 j hj];omega)),t1,t2,t3⟩
theorem gI.below (h:gI w T g M n c st vo) (hb:Below w.heap.size w w'):gI w' T g M n c st vo:=h.stay fun k hk=>hb.block k (h.lt k hk)
theorem gI.drew (h:gI w T g M n c st vo):gI w.drew T g M n c st vo:=h.below (Below.refl _ w).drew
theorem gI.drewN (h:gI w T g M n c st vo) (k:Nat):gI (w.drewN k) T g M n c st vo:=h.below ((Below.refl _ w).drewN k)
theorem gI.alloc (h:gI w T g M n c st vo) (o:Obj):gI (w.alloc o) T g M n c st vo:=h.below ((Below.refl _ w).alloc (aN) o)
theorem gI.far {Q:Nat→Obj→Prop} (h:gI w T g M n c st vo) (hk:Kept Q w w') (hm:∀k o,Q k o→T k=0):gI w' T g M n c st vo:=
 h.stay fun k hf=>by
  have h1:=h.lt k hf;have h2:w.heap[k]? =some w.heap[k]:=Array.getElem?_eq_getElem h1;rw[h2];exact hk.same k _ h2 fun hM=>hf (hm k _ hM)
theorem gI.put (h:gI w T g M n c st vo) (i:Nat) (u:Value) {st':Rc} (he:(Mb c M vo st).setIfInBounds i u=Mb c M vo st') (hm:st'.m=st.m) (ho:st'.op=st.op):gI (w.setCell ⟨g,i,none⟩ u) T g M n c st' vo:=by
 have hk:∀k,T k≠1→(w.setCell ⟨g,i,none⟩ u).heap[k]? =w.heap[k]? :=fun k hk=>Below.heap_setCell w ⟨g,i,none⟩ u k (fun e=>by have e2:k=g:=e;rw[e2] at hk;exact hk h.tg)
 obtain ⟨F,h1,h2⟩:=h.mp;refine ⟨?_,h.tg,h.tM,fun k hf=>by simpa[World.setCell] using h.lt k hf,?_,h.od,F,h1.same (hk M (by rw[h.tM];omega)),fun k=>⟨by rw[hm];exact (h2 k).1,fun p hp=> ?_⟩⟩
 ·have:=h.blk.av i u;rw[he] at this;exact this
 ·rw[ho];exact bX h.rX fun k e=>hk k (by rw[h.od k e];omega)
 ·rw[hm] at hp;obtain ⟨b,vf,vd,e,hs,t1,t2,t3⟩:=(h2 k).2 p hp;exact ⟨b,vf,vd,e,hs.stay (hk b (by omega)) (fun j hj=>hk j (by rw[t2 j hj];omega)) (fun j hj=>hk j (by rw[t3 j hj];omega)),t1,t2,t3⟩
theorem gI.cell (h:gI w T g M n c st vo) (i:Nat):w.cell? ⟨g,i,none⟩=(Mb c M vo st)[i]? :=h.blk.cell i
theorem gI.cells (h:gI w T g M n c st vo):w.cell? ⟨g,3,none⟩=some (.int .i64 c.reorder)∧w.cell? ⟨g,4,none⟩=some (.int .i64 c.gP)∧w.cell? ⟨g,7,none⟩=some (.map (some M))∧w.cell? ⟨g,8,none⟩=some (.int .i64 (st.next:Nat))∧w.cell? ⟨g,9,none⟩=some (.int .i64 (st.status:Nat))∧w.cell? ⟨g,10,none⟩=some (.int .i64 (st.high:Nat))∧
 w.cell? ⟨g,11,none⟩=some (.bool st.ro)∧w.cell? ⟨g,12,none⟩=some (.int .i64 (st.jM:Nat))∧w.cell? ⟨g,13,none⟩=some (.int .i64 st.exp)∧w.cell? ⟨g,14,none⟩=some (.bool st.due)∧w.cell? ⟨g,15,none⟩=some (.int .i64 st.D8)∧w.cell? ⟨g,16,none⟩=some (.int .i64 st.now)∧w.cell? ⟨g,17,none⟩=some vo∧w.cell? ⟨g,18,none⟩=some (.bool st.sm):=
 ⟨h.blk.cell 3,h.blk.cell 4,h.blk.cell 7,h.blk.cell 8,h.blk.cell 9,h.blk.cell 10,h.blk.cell 11,h.blk.cell 12,h.blk.cell 13,h.blk.cell 14,h.blk.cell 15,h.blk.cell 16,h.blk.cell 17,h.blk.cell 18⟩
end
end
section
open Go.RowKit Go.Shelf
attribute [local go_sem] Oper.semAt_some
theorem qj (n:Int):bits .and .i64 n 1023=n%1024:=by
 have h127:(BitVec.ofInt 64 1023).toNat=2 ^ 10-1:=by decide
 have key:(BitVec.ofInt 64 n&&& BitVec.ofInt 64 1023).toNat=(n%((2 ^ 64:Nat):Int)).toNat%2 ^ 10:=by
  rw[BitVec.toNat_and,BitVec.toNat_ofInt,h127,Nat.and_two_pow_sub_one_eq_mod]
 show IntKind.i64.wrap ((BitVec.ofInt 64 n&&& BitVec.ofInt 64 1023).toNat:Nat)=n%1024
 rw[key,IntKind.wrap_i64];omega
section
variable {w w':World} {T:Nat→Nat} {g M n:Nat} {c:Cf} {st:Rc} {vo:Value}
set_option maxRecDepth 100000 in
theorem nE (h:gI w T g M n c st vo):Calls Tryz.prog 79 #[.pointer (some ⟨g,0,none⟩)] w fun e w'=>e= .returned (.bool false)∧w=w':=by
 have x7:=h.cells.2.2.1;have q:∀(w:World) (r:Option Nat),(binOp .eql 128 (.map r) (.map none)).run Tryz.prog w= .ok (.bool r.isNone) w:=fun w r=>run_eql_map_nil w _ _ _ r xY
 clear h;go_enter Tryz.func79,Tryz.ntmps79;go_wp2;go_ret;exact ⟨rfl,rfl⟩
theorem wP (w:World) (next sn:Nat) (h:w.cell? ⟨g,8,none⟩=some (.int .i64 (next:Nat))) (hn:next≤1023) (hs:sn≤1023):
 Calls Tryz.prog 97 #[.pointer (some ⟨g,0,none⟩),.int .i64 sn] w fun e w'=>e= .returned (.int .i64 ((sn+1024-next)%1024:Nat))∧w=w':=by
 have hand:bits BinOp.and IntKind.i64 ((sn:Int)-next) 1023=(((sn+1024-next)%1024:Nat):Int):=by rw[qj];omega
 go_enter Tryz.func97,Tryz.ntmps97;go_wp2;go_ret;exact ⟨rfl,rfl⟩
theorem zu (h:gI w T g M n c st vo) (ho:dP st) (sn:Nat) (hs:sn≤1023):
 Calls Tryz.prog 97 #[.pointer (some ⟨g,0,none⟩),.int .i64 sn] w fun e w'=>e= .returned (.int .i64 (cO st sn:Nat))∧w=w':=
 wP w st.next sn h.cells.2.2.2.1 ho.n1 hs
theorem oF (er:Int) (w:World):Calls Tryz.prog 96 #[.bool true,.int .i64 er] w fun e w'=>e= .returned (.tuple #[])∧w=w':=by
 go_enter Tryz.func96,Tryz.ntmps96;go_wp2
 go_end0
 exact ⟨rfl,rfl⟩
abbrev Ed (er:Int):Ending:= .panicked [{v:= .iface 53 (.int .i64 er),recovered:=false}]
theorem mr (er:Int) (w:World):Calls Tryz.prog 96 #[.bool false,.int .i64 er] w fun e w'=>e=Ed er∧w=w':=by
 unfold Ed;go_enter Tryz.func96,Tryz.ntmps96;go_wp2;exact ⟨rfl,rfl,rfl⟩
end
section
variable {w:World} {A:Option Addr} {n c:Nat} {l:List Fl}
theorem zw (h:lV w A n c l) (at_:Nat) (hat:at_≤100000) (which:Nat) (hw:which<3):
 Calls Tryz.prog 156 #[.slice A n c,.int .i64 at_,.int .i64 which] w fun e w'=>e= .returned (.bool (if which=0 then (fQ l at_).1 else if which=1 then (fQ l at_).2.1 else (fQ l at_).2.2))∧w=w':=by
 have hcap:=h.cap;have hmx:=h.mx;have hlen:=h.len;by_cases hlt:at_<n
 ·obtain ⟨g,o,rfl,hg,hc⟩:=h.at_ (by omega);obtain ⟨f,hf⟩:∃f,l[at_]? =some f:=⟨_,List.getElem?_eq_getElem (by omega)⟩
  obtain ⟨k0,k1,k2⟩:=hc at_ f hf;rw[Cy hf];clear hc h hf hlen;obtain rfl|rfl|rfl:which=0∨which=1∨which=2:=by omega
  all_goals
   go_enter Tryz.func156,Tryz.ntmps156;go_wp2;go_ret;exact ⟨rfl,rfl⟩
 ·have hf:fQ l at_=UR:=by unfold fQ;rw[List.getElem?_eq_none (by omega)];rfl
  rw[hf];clear h hf hlen;obtain rfl|rfl|rfl:which=0∨which=1∨which=2:=by omega
  all_goals
   go_enter Tryz.func156,Tryz.ntmps156;go_wp2;go_ret;exact ⟨rfl,rfl⟩
theorem Mc {l:List Fl} {k:Nat} {f:Fl} (hf:l[k]? =some f):qg (l.take (k+1))=qg (l.take k)+f.1.toNat:=by
 unfold qg;rw[List.take_add_one,hf];simp
set_option maxHeartbeats 400000 in
theorem Jj (h:lV w A n c l) (hn:n≤100000):
 Calls Tryz.prog 162 #[.slice A n c] w fun e w'=>e= .returned (.int .i64 (qg l:Nat))∧Below w.heap.size w w':=by
 have hcap:=h.cap;have hmx:=h.mx;have HH:=ah h;have hlen:=h.len;clear h;go_enter Tryz.func162,Tryz.ntmps162;go_wp2
 go_loopw [2,7] (fun s i wr=>∃k:Nat,k≤n∧i= .int .i64 k∧s= .int .i64 (qg (l.take k):Nat)∧Below w.heap.size w wr) (fun _ i _=>n-(intOf i).toNat)
 case atStart=>exact ⟨0,Nat.zero_le _,rfl,rfl,Below.refl _ w⟩
 case round=>
  obtain ⟨k,hk,rfl,rfl,hb⟩:=hrel;by_cases hlt:k<n
  ·obtain ⟨g,o,rfl,hg,hc⟩:=(HH.out.below hb).at_ (by omega);obtain ⟨f,hf⟩:∃f,l[k]? =some f:=⟨_,List.getElem?_eq_getElem (by omega)⟩
   obtain ⟨k0,k1,k2⟩:=hc k f hf;have hle:=xX (l.take k);rw[List.length_take] at hle;have ht:=Mc hf;obtain ⟨fg,fs,fe⟩:=f;dsimp only at k0 k1 k2 ht;generalize qg (l.take k)=S at*;have HT:=ah ht;have HB:=ah (hb.alloc hb.size (.cells #[.bool fg,.bool fs,.bool fe] 174));clear hc ht hf hb;cases fg with
   |true=>
    go_wp2
    go_round
    case rel=>exact ⟨k+1,by omega,by go_num,by rw[HT.out];go_num,HB.out⟩
    case measure=>simp[intOf];omega
   |false=>
    go_wp2
    go_round
    case rel=>exact ⟨k+1,by omega,by go_num,by rw[HT.out];go_num,HB.out⟩
    case measure=>simp[intOf];omega
  ·have e:l.take k=l:=List.take_of_length_le (by omega);rw[e];have HB:=ah hb;clear e hb;go_wp2;go_ret;exact ⟨rfl,HB.out⟩
end
end
section
open Go.RowKit Go.Shelf
attribute [local go_sem] Oper.semAt_some
section
variable {w w':World} {T:Nat→Nat} {g M n:Nat} {c:Cf} {st:Rc} {vo:Value}
theorem sH (w:World):Calls Tryz.prog 117 #[.pointer none] w fun e w'=>e= .returned (.bool false)∧Below w.heap.size w w':=by
 go_enter Tryz.func117,Tryz.ntmps117;go_wp2_with fail
 go_quiet (fail)
 go_wp2_with fail;go_ret;exact ⟨rfl,(Below.refl _ w).drewN nq⟩
set_option maxHeartbeats 400000 in
theorem sI {b:Nat} {p:Sp} {vf vd:Value} (h:oD w b p vf vd) (ho:xH p):
 Calls Tryz.prog 117 #[.pointer (some ⟨b,0,none⟩)] w fun e w'=>e= .returned (.bool (lK p))∧Below w.heap.size w w':=by
 obtain ⟨x0,x1,x2⟩:w.cell? ⟨b,0,none⟩=some vf∧w.cell? ⟨b,1,none⟩=some vd∧w.cell? ⟨b,2,none⟩=some (.int .i64 (dx p)):=⟨h.blk.cell 0,h.blk.cell 1,h.blk.cell 2⟩;have hbl:=h.blk.lt;have hi:=ho.i;obtain ⟨A,cc,rfl,hs⟩:=lV.cB h.fr;have hle:=ho.le;have hcnt:∀W,Below w.heap.size w W→Calls Tryz.prog 162 #[.slice A p.fl.length cc] W fun e w'=>e= .returned (.int .i64 (qg p.fl:Nat))∧Below w.heap.size w w':=fun W hW=>
  (Jj (hs.below hW) (by omega)).mono fun e w' hh=>⟨hh.1,hW.trans (hh.2.mono hW.size)⟩
 have HC:=ah hcnt;have hgl:=xX p.fl;by_cases hz:0<dx p
 ·have d1:decide (dx p>0)=true:=by simpa using hz
  have hb0:=Below.refl w.heap.size w;have hres:(((qg p.fl:Nat):Int)==dx p)=lK p:=by
   unfold dx at hz ⊢;unfold lK;cases hs2:p.size with
   |none=>rw[hs2] at hz;simp at hz
   |some k=>
    rw[hs2] at hz;dsimp only at hz ⊢;rw[decide_eq_true (show 0<k by omega),Bool.true_and];by_cases e:qg p.fl=k
    ·rw[e];simp
    ·rw[decide_eq_false e];simp;omega
  have aeE:=ah hres;have Bz:=ah hi;clear hres h hcnt hz hs ho;generalize dx p=S at*;generalize qg p.fl=G at*;go_enter Tryz.func117,Tryz.ntmps117;go_wp2_with fail
  go_region_held3 (fun W=>W.cell? ⟨b,0,none⟩=some (.slice A p.fl.length cc)∧W.cell? ⟨b,2,none⟩=some (.int .i64 S))
   (first|exact ⟨x0,x2⟩|exact ⟨(hb1.cell (p:=⟨b,0,none⟩) hbl).trans x0,(hb1.cell (p:=⟨b,2,none⟩) hbl).trans x2⟩|go_keep)
   (first
    |(go_at_call 162;refine (HC.out _ (by (repeat first|assumption|refine Below.drew ?_|refine Below.drewN ?_ _))).mono ?_;rintro e1 w1 ⟨rfl,hb1⟩)
    |fail)
  all_goals
   go_wp2_with fail;go_ret;exact ⟨by rw[←aeE.out];rfl,by assumption⟩
 ·have d1:decide (dx p>0)=false:=by simpa using hz
  have hres:lK p=false:=by
   unfold dx at hz;unfold lK;cases hs2:p.size with
   |none=>rfl
   |some k=>
    rw[hs2] at hz;dsimp only at hz ⊢;rw[decide_eq_false (show ¬0<k by omega)];rfl
  rw[hres];clear hres h hcnt hz hs ho hi;generalize dx p=S at*;go_enter Tryz.func117,Tryz.ntmps117;go_wp2_with fail
  go_quiet (fail)
  go_wp2_with fail;go_ret;exact ⟨rfl,(Below.refl _ w).drewN nq⟩
theorem gI.look (h:gI w T g M n c st vo) {k:Nat} (hk:k≤1023):∃v,(Instr.lookup 128 (.map (some M)) (.int .i64 k) false).run Tryz.prog w= .ok v w∧((st.m k=none∧v= .pointer none)∨∃p b vf vd,st.m k=some p∧v= .pointer (some ⟨b,0,none⟩)∧oD w b p vf vd∧T b=3*k+4∧(∀j,vf.ownBlock=some j→T j=3*k+5)∧(∀j,vd.ownBlock=some j→T j=3*k+6)):=by
 obtain ⟨F,h1,h2⟩:=h.mp;refine ⟨(F k).getD (.pointer none),h1.ZZ uw xY (Jh w) (by omega),?_⟩;cases hm:st.m k with
 |none=>exact .inl ⟨rfl,by rw[(h2 k).1 hm];rfl⟩
 |some p=>
  obtain ⟨b,vf,vd,e,hs,t1,t2,t3⟩:=(h2 k).2 p hm;exact .inr ⟨p,b,vf,vd,rfl,by rw[e];rfl,hs,t1,t2,t3⟩
theorem gI.Z0 (h:gI w T g M n c st vo) (ho:dP st) {k:Nat} (hk:k≤1023):∃v,(Instr.lookup 128 (.map (some M)) (.int .i64 k) false).run Tryz.prog w= .ok v w∧
 Calls Tryz.prog 117 #[v] w fun e w'=>e= .returned (.bool (gB (st.m k)))∧Below w.heap.size w w':=by
 obtain ⟨v,hr,⟨hm,rfl⟩|⟨p,b,vf,vd,hm,rfl,hs,_⟩⟩:=h.look hk
 ·refine ⟨_,hr,?_⟩;rw[hm];exact sH w
 ·refine ⟨_,hr,?_⟩;rw[hm];exact sI hs (ho.m k p hm).2.2
theorem dP.stops (ho:dP st) {sn:Nat} (hs:sn≤1023):∃j,j<1024∧gB (st.m ((sn+j)%1024))=false:=by
 refine ⟨((st.next+512)%1024+1024-sn)%1024,by omega,?_⟩;have hn:=ho.n1;rw[show (sn+((st.next+512)%1024+1024-sn)%1024)%1024=(st.next+512)%1024 by omega];cases hm:st.m ((st.next+512)%1024) with
 |none=>rfl
 |some p=>
  have:=(ho.m _ p hm).2.1;unfold cO at this;omega
theorem uy (m:Nat→Option Sp):∀(f sn:Nat),sn≤1023→qh m f sn≤1023
 |0,_,h=>h
 |f+1,sn,h=>by
  unfold qh;split
  ·exact uy m f _ (by unfold fJ;omega)
  ·exact h
set_option maxHeartbeats 400000 in
theorem Cz (h:gI w T g M n c st vo) (ho:dP st) (sn:Nat) (hs:sn≤1023):
 Calls Tryz.prog 99 #[.pointer (some ⟨g,0,none⟩),.int .i64 sn] w fun e w'=>e= .returned (.int .i64 (qh st.m 1024 sn:Nat))∧Below w.heap.size w w':=by
 obtain ⟨R,hR⟩:∃R,R=qh st.m 1024 sn:=⟨_,rfl⟩
 rw[←hR];have HH:=ah h;have HO:=ah ho;have HR:=ah hR;have HST:=ah (ho.stops hs);clear h ho hR;go_enter Tryz.func99,Tryz.ntmps99;go_wp2;go_loopg [1] 1024 (fun gk s1 wr=>∃(k j:Nat),s1= .int .i64 (k:Nat)∧k≤1023∧Below w.heap.size w wr∧R=qh st.m gk k∧j<gk∧gB (st.m ((k+j)%1024))=false)
 case atStart=>
  obtain ⟨j,h1,h2⟩:=HST.out;exact ⟨sn,j,rfl,hs,Below.refl _ w,HR.out,h1,h2⟩
 case round=>
  obtain ⟨k,j,rfl,hk,hb,hr,hj,hst⟩:=hrel;have hA:=HH.out.below hb;have x7:=hA.cells.2.2.1;obtain ⟨v,hl,hc⟩:=hA.Z0 HO.out hk;obtain ⟨f,rfl⟩:∃f,gk=f+1:=⟨gk-1,by omega⟩
  unfold qh at hr;have HC:=ah hc;have HB:=ah hb;cases hcm:gB (st.m k) with
  |true=>
   rw[hcm] at HC;rw[hcm,if_pos rfl] at hr;have hj0:j≠0:=fun e=>by
    rw[e,Nat.add_zero,Nat.mod_eq_of_lt (by omega),hcm] at hst;cases hst
   have FX:gB (st.m ((fJ k+(j-1))%1024))=false:=by
    unfold fJ;rw[show ((k+1)%1024+(j-1))%1024=(k+j)%1024 by omega];exact hst
   have hand:bits BinOp.and IntKind.i64 ((k:Int)+1) 1023=((fJ k:Nat):Int):=by rw[qj];unfold fJ;omega
   have hup:fJ k≤1023:=by unfold fJ;omega
   have HRR:=ah hr;have HS2:=ah FX;have HJ:=ah hj;have Z4:=ah hj0;clear hA hc hb hr hst FX hcm hj hj0;generalize fJ k=q at*;go_wp2_with fail;refine HC.out.mono ?_;rintro e1 w1 ⟨rfl,hb1⟩;go_wp2
   go_roundg f
   case measure=>omega
   case rel=>exact ⟨q,j-1,rfl,hup,HB.out.trans (hb1.mono HB.out.size),HRR.out,by have:=HJ.out;have:=Z4.out;omega,HS2.out⟩
  |false=>
   rw[hcm] at HC;rw[hcm,if_neg (by simp)] at hr;have HRR:=ah hr;clear hA hc hb hr hst hcm hj;go_wp2_with fail;refine HC.out.mono ?_;rintro e1 w1 ⟨rfl,hb1⟩;go_wp2;go_ret;exact ⟨by rw[HRR.out];rfl,HB.out.trans (hb1.mono HB.out.size)⟩
theorem qm {w w':World} {T:Nat→Nat} (h:Below w.heap.size w w'):Kept (MT T) w w':=(Kept.of_below h).fE fun k o ho hm=>by have:=lt_of_heap ho;omega
set_option maxHeartbeats 1000000 in
theorem zx (h:gI w T g M n c st vo) (ho:dP st) (_hc1:0≤c.reorder) (_hc2:c.reorder≤9223372036854775807):
 Calls Tryz.prog 101 #[.pointer (some ⟨g,0,none⟩)] w fun e w'=>e= .returned (.tuple #[])∧gI w' T g M n c (vQ c st) vo∧Kept (MT T) w w':=by
 obtain ⟨x3,x4,x7,x8,x9,x10,vF,FB,Q8,CB,Sv,Q9,OZ,x18⟩:=h.cells;have f11:=h.blk.frozen 11;have f12:=h.blk.frozen 12;have f13:=h.blk.frozen 13;have hn1:=ho.t1;have hn2:=ho.t2;have HH:=ah h;clear h ho x4 x7 x8 x9 CB Sv OZ x18;go_enter Tryz.func101,Tryz.ntmps101;go_wp2_with fail
 go_region
 all_goals
  go_wp2_with fail
  go_end0
  have h1:=HH.out.put 11 (.bool true) (st':= {st with ro:=true}) rfl rfl rfl;have h2:=h1.put 12 (.int .i64 (st.high:Nat)) (st':= {st with ro:=true,jM:=st.high}) rfl rfl rfl;have h3:=h2.put 13 (.int .i64 (IntKind.i64.wrap (st.now+c.reorder))) (st':= {st with ro:=true,jM:=st.high,exp:=IntKind.i64.wrap (st.now+c.reorder)}) rfl rfl rfl;rw[show wrap64 (st.now+c.reorder)=IntKind.i64.wrap (st.now+c.reorder) by rw[IntKind.wrap_i64];unfold wrap64;rfl];have ht:∀o:Obj,MT T g o:=fun o=>by unfold MT;rw[HH.out.tg];omega
  exact ⟨rfl,h3.drew,(((Kept.refl _ w).setCell (p:=⟨g,11,none⟩) (fun o _=>ht o) _).setCell (p:=⟨g,12,none⟩) (fun o _=>ht o) _).setCell (p:=⟨g,13,none⟩) (fun o _=>ht o) _ |>.drew⟩
end
end
section
open Go.RowKit Go.Shelf
attribute [local go_sem] Oper.semAt_some
section
variable {w w':World} {A:Option Addr} {n c:Nat} {l:List Fl}
theorem Mg (f:Fl) (w:World):Calls Tryz.prog 154 #[.agg #[.bool f.1,.bool f.2.1,.bool f.2.2]] w fun e w'=>e= .returned (.bool f.1)∧Below w.heap.size w w':=by
 have hb:=au.new w 174 #[.bool f.1,.bool f.2.1,.bool f.2.2];have c0:=hb.cell 0;simp at c0;clear hb;go_enter Tryz.func154,Tryz.ntmps154;go_wp2;go_ret;exact ⟨rfl,(Below.refl _ w).alloc (aN) _⟩
set_option maxHeartbeats 400000 in
theorem O5 (h:lV w A n c l) (hn:n≤100000):
 Calls Tryz.prog 153 #[.slice A n c,.func (.func 154) #[] #[]] w fun e w'=>e= .returned (.bool (l.any (fun f=>f.1)))∧Below w.heap.size w w':=by
 have key:Calls Tryz.prog 196 #[.slice A n c,.func (.func 154) #[] #[]] w fun e w'=>(∃i:Int,e= .returned (.int .i64 i)∧(decide (i≥0))=l.any (fun f=>f.1))∧Below w.heap.size w w':=by
  have hcap:=h.cap;have hmx:=h.mx;have HH:=ah h;have hlen:=h.len;clear h;go_enter Tryz.func196,Tryz.ntmps196;go_wp2
  go_loopw [8] (fun i wr=>∃k:Nat,k≤n∧i= .int .i64 k∧(l.take k).any (fun f=>f.1)=false∧Below w.heap.size w wr) (fun i _=>n-(intOf i).toNat)
  case atStart=>exact ⟨0,Nat.zero_le _,rfl,by simp,Below.refl _ w⟩
  case round=>
   obtain ⟨k,hk,rfl,hno,hb⟩:=hrel;by_cases hlt:k<n
   ·obtain ⟨g,o,rfl,hg,hc⟩:=(HH.out.below hb).at_ (by omega);obtain ⟨f,hf⟩:∃f,l[k]? =some f:=⟨_,List.getElem?_eq_getElem (by omega)⟩
    obtain ⟨k0,k1,k2⟩:=hc k f hf;have hcl:=Mg f wr;have hst:(l.take (k+1)).any (fun f=>f.1)=f.1:=by rw[List.take_add_one,hf,List.any_append,hno];simp
    have hall:f.1=true→l.any (fun f=>f.1)=true:=fun e=>List.any_eq_true.2 ⟨f,List.mem_of_getElem? hf,e⟩
    have HST:=ah hst;have mZ:=ah hall;have HB:=ah hb;have pV:=ah hcl;obtain ⟨fg,fs,fe⟩:=f;dsimp only at k0 k1 k2 HST mZ pV;clear hc hf hno hst hall hb hcl;cases fg with
    |true=>
     go_wp2_with fail;refine pV.out.mono ?_;rintro e1 w1 ⟨rfl,hb1⟩;go_wp2;go_ret;exact ⟨⟨k,rfl,by rw[mZ.out trivial];simp⟩,HB.out.trans (hb1.mono HB.out.size)⟩
    |false=>
     go_wp2_with fail;refine pV.out.mono ?_;rintro e1 w1 ⟨rfl,hb1⟩;go_wp2
     go_round
     case rel=>exact ⟨k+1,by omega,by go_num,HST.out,HB.out.trans (hb1.mono HB.out.size)⟩
     case measure=>simp[intOf];omega
   ·have e:l.take k=l:=List.take_of_length_le (by omega);rw[e] at hno;have HN:=ah hno;have HB:=ah hb;clear e hno hb;go_wp2;go_ret;exact ⟨⟨-1,rfl,by rw[HN.out];rfl⟩,HB.out⟩
 have HK:=ah key;have hcap:=h.cap;have hmx:=h.mx;clear key h;go_enter Tryz.func153,Tryz.ntmps153;go_wp2_with fail;refine HK.out.mono ?_;rintro e1 w1 ⟨⟨i,rfl,hi⟩,hb1⟩;have HI:=ah hi;clear hi;go_wp2;go_ret;exact ⟨by rw[←HI.out];rfl,hb1⟩
end
section
variable {P:Program} {ops:Array Oper} {Q:Exit→Act→World→Prop} {n l:Nat}
theorem sJ {id:Nat} {a:Act} {w:World} (S:World→Prop) (L:List Nat) (hm:P.follows .mixedOrders=true) (hd:ops.toList.all mh=true) (hout:¬LetsOut Q)
 (h:dz P .any ops Q S L ops.size (Array.replicate ops.size false) a w.drew):(Code.region id ops true).wpIn (Fence.wide.inRound l) n P Q a w:=
 wpIn_region_any hm (iM hd hout _ _ _ _ (rZ _ _ _ _ h))
end
section
variable {P:Program}
theorem aV {id m lr:Nat} {Q:Exit→Act→World→Prop} {a:Act} {w:World} {l:List Oper} (n:Nat) (hm:P.follows .mixedOrders=true) (hd:l.toArray.toList.all mh=true) (hout:¬LetsOut Q) (hB:Region.lexTailB .any l.toArray n=true)
 (h:wpStill P l.toArray {w with drawn:=w.drawn+1} (fun a'=>wpList P l.toArray Q (l.drop n) a' {w with drawn:=w.drawn+1}) (l.take n) a):(Code.region id l.toArray true).wpIn (Fence.wide.inRound lr) m P Q a w:=by
 simp only[Region.lexTailB,Bool.and_eq_true,decide_eq_true_eq] at hB;obtain ⟨⟨⟨⟨hsel,hn⟩,hs⟩,hc⟩,hlex⟩:=hB;have hn':n<l.length:=by simpa using hn
 have htl:(l.take n).length=n:=by simp;omega
 have hdl:(l.drop n).length=l.toArray.size-n:=by simp
 have inv0:HeadInv .any l.toArray n (Array.replicate l.toArray.size false):=
  ⟨by simp,fun j oj _ hl=>(by rw[getD_replicate_false] at hl;cases hl),fun t _ ht=>getD_in (by simpa using ht) (getD_replicate_false _ _)⟩
 have H:=wpAnyL_lex (md:= .any) (g:=l.toArray.size-n) hsel hs hc hn (l.take n) 0 _ a (fun j hj=>by
  have hj':j<n:=by rw[htl] at hj;exact hj
  simp[hj']) (by simpa using htl) inv0 (by rw[htl];exact hlex) h
 refine wpIn_region_any hm (iM hd hout _ _ _ _ ?_);have:=wpAny_of_head (Q':=Q) (g:=l.toArray.size-n) (fun listed a' hL=>by
  have:=wpAny_of_seq (md:= .any) (Q':=Q) (l.drop n) n listed a' {w with drawn:=w.drawn+1} (fun j=>by simp[List.getElem?_drop]) (by rw[hdl];exact hL.1) hL.2
  rwa [hdl] at this) _ _ _ H
 rw[htl,show n+(l.toArray.size-n)=l.toArray.size by omega] at this;exact this
end
theorem uF {W:World} {base size n:Nat} {e:TypeId} {v:Value} {xs:List Value} (h:W.ownsRow base e size v n xs) (hn:0<n):∃g cap,v= .slice (some ⟨g,0,none⟩) n cap∧n≤cap∧cap≤9223372036854775807∧g<W.heap.size:=by
 rcases h.2 with ⟨_,h0⟩|⟨g,cap,cur,rfl,_,hg,h1,h2,_⟩
 ·omega
 ·exact ⟨g,cap,rfl,h1,by unfold maxLen at h2;omega,lt_of_heap hg⟩
theorem wR (s e:Bool) (n:Nat):∀(a:List (List UInt8)) (i:Nat) (p:List UInt8),gZ s e n i (a++ [p])=gZ s e n i a++rF p (decide (0<i+a.length)||s) (decide (i+a.length+1<n)||e)
 | [],i,p=>by simp[gZ]
 |q::r,i,p=>by
  rw[List.cons_append,gZ,gZ,wR s e n r (i+1) p,List.append_assoc,List.length_cons];rw[show i+1+r.length=i+(r.length+1) by omega]
theorem Gb {s e:Bool} {n:Nat} {ps:List (List UInt8)} {k:Nat} {p:List UInt8} (h:ps[k]? =some p):gZ s e n 0 (ps.take (k+1))=gZ s e n 0 (ps.take k)++rF p (decide (0<k)||s) (decide (k+1<n)||e):=by
 have hk:=(List.getElem?_eq_some_iff.1 h).1;rw[List.take_add_one,h];simp only[Option.toList];rw[wR,List.length_take,Nat.min_eq_left (by omega),Nat.zero_add]
theorem O6 (l:List (Fl × UInt8)) (f:Fl) (b:UInt8) (a:Nat) (x:List Fl × List UInt8):
 Cw (l++ [(f,b)]) a x=if (fQ (Cw l a x).1 (a+l.length)).1=true then Cw l a x else ((Cw l a x).1.set (a+l.length) f,(Cw l a x).2.set (a+l.length) b):=by
 rw[Ea];rfl
def Ra (s e:Bool) (off:Nat) (ps:List (List UInt8)) (x0:List Fl × List UInt8) (k:Nat):List Fl × List UInt8:=Cw (gZ s e ps.length 0 (ps.take k)) off x0
def AP (s e:Bool) (off:Nat) (ps:List (List UInt8)) (x0:List Fl × List UInt8) (k j:Nat):List Fl × List UInt8:=
 Cw ((rF (ps[k]?.getD []) (decide (0<k)||s) (decide (k+1<ps.length)||e)).take j) (off+aj (ps.take k)) (Ra s e off ps x0 k)
section
variable {s e:Bool} {off:Nat} {ps:List (List UInt8)} {x0:List Fl × List UInt8} {k:Nat}
theorem O7:AP s e off ps x0 k 0=Ra s e off ps x0 k:=by
 unfold AP;rw[List.take_zero];rfl
theorem O8 (hk:k<ps.length):AP s e off ps x0 k (ps[k]?.getD []).length=Ra s e off ps x0 (k+1):=by
 have hp:ps[k]? =some ps[k]:=List.getElem?_eq_getElem hk;unfold AP Ra;rw[Gb (n:=ps.length) hp,Ea,sG,hp,Option.getD_some,List.take_of_length_le (by rw[vT];exact aN)]
theorem SF (j:Nat):(AP s e off ps x0 k j).1.length=x0.1.length∧(AP s e off ps x0 k j).2.length=x0.2.length:=by
 unfold AP Ra;have h1:=qO (gZ s e ps.length 0 (ps.take k)) off x0;have h2:=qO ((rF (ps[k]?.getD []) (decide (0<k)||s) (decide (k+1<ps.length)||e)).take j) (off+aj (ps.take k)) (Cw (gZ s e ps.length 0 (ps.take k)) off x0);exact ⟨h2.1.trans h1.1,h2.2.trans h1.2⟩
theorem O9 {j:Nat} (hj:j<(ps[k]?.getD []).length):AP s e off ps x0 k (j+1)=
 if (fQ (AP s e off ps x0 k j).1 (off+aj (ps.take k)+j)).1=true then AP s e off ps x0 k j
 else ((AP s e off ps x0 k j).1.set (off+aj (ps.take k)+j) (true,decide (j=0)&&(decide (0<k)||s),decide (j+1=(ps[k]?.getD []).length)&&(decide (k+1<ps.length)||e)),
  (AP s e off ps x0 k j).2.set (off+aj (ps.take k)+j) ((ps[k]?.getD [])[j]?.getD 0)):=by
 unfold AP;generalize ps[k]?.getD []=p at*;have hg:(rF p (decide (0<k)||s) (decide (k+1<ps.length)||e))[j]? =some ((true,decide (j=0)&&(decide (0<k)||s),decide (j+1=p.length)&&(decide (k+1<ps.length)||e)),p[j]?.getD 0):=by
  rw[L9,List.getElem?_eq_getElem hj];rfl
 rw[List.take_add_one,hg];simp only[Option.toList];rw[O6,List.length_take,vT,Nat.min_eq_left (by omega)]
end
def UT (b:Nat) (vf vd:Value) (k:Nat) (_:Obj):Prop:=k=b∨vf.ownBlock=some k∨vd.ownBlock=some k
structure pF (w:World) (b:Nat) (vf vd:Value) (xc:Array Value) (sz:Int) (kR kK:Value) (fl:List Fl) (da:List UInt8) (W:World):Prop where
 blk:au W b 165 #[kR,kK,.int .i64 sz]
 fr:W.ownsRow 0 174 3 kR fl.length (uZ fl)
 dr:W.ownsRow 0 5 1 kK da.length (bO da)
 bf:∀k,kR.ownBlock=some k→vf.ownBlock=some k∨w.heap.size≤k
 bd:∀k,kK.ownBlock=some k→vd.ownBlock=some k∨w.heap.size≤k
 kp:Kept (UT b vf vd) w W
 bp:au W w.heap.size 161 #[.pointer (some ⟨b,0,none⟩)]
 bx:au W (w.heap.size+1) 148 xc
 hb:b<w.heap.size
section
variable {w W W':World} {b:Nat} {vf vd kR kK:Value} {xc:Array Value} {sz:Int} {fl:List Fl} {da:List UInt8}
theorem pF.below (h:pF w b vf vd xc sz kR kK fl da W) (hb:Below W.heap.size W W'):pF w b vf vd xc sz kR kK fl da W':=
 ⟨h.blk.below hb h.blk.lt,bX h.fr fun k hk=>hb.block k (h.fr.lt k hk).2,bX h.dr fun k hk=>hb.block k (h.dr.lt k hk).2,h.bf,h.bd,h.kp.trans ((Kept.of_below hb).fE fun k o ho hm=>by have:=lt_of_heap ho;omega),h.bp.below hb h.bp.lt,h.bx.below hb h.bx.lt,h.hb⟩
theorem pF.drew (h:pF w b vf vd xc sz kR kK fl da W):pF w b vf vd xc sz kR kK fl da W.drew:=h.below (Below.refl _ W).drew
theorem pF.alloc (h:pF w b vf vd xc sz kR kK fl da W) (o:Obj):pF w b vf vd xc sz kR kK fl da (W.alloc o):=h.below ((Below.refl _ W).alloc (aN) o)
theorem jI {base size n g:Nat} {e t:TypeId} {v:Value} {xs:List Value} {cs:Array Value} (h:W.ownsRow base e size v n xs) (hg:au W g t cs) (hne:e≠t):some g≠v.ownBlock:=fun e'=>aJ h hg hne e'.symm
theorem qP {b1 b2 s1 s2 n1 n2:Nat} {e1 e2:TypeId} {v1 v2:Value} {x1 x2:List Value} (h1:W.ownsRow b1 e1 s1 v1 n1 x1) (h2:W.ownsRow b2 e2 s2 v2 n2 x2) (hne:e1≠e2):v1.ownBlock=none∨v1.ownBlock≠v2.ownBlock:=by
 cases hv:v1.ownBlock with
 |none=>exact .inl rfl
 |some k=>
  refine .inr fun e=> ?_
  obtain ⟨o1,a1,⟨c1,f1,rfl⟩,_⟩:=bU h1 hv;obtain ⟨o2,a2,⟨c2,f2,e2⟩,_⟩:=bU h2 e.symm;rw[a1] at a2;cases a2;cases e2;exact hne rfl
theorem fC {base size n g i:Nat} {e t:TypeId} {v:Value} {xs:List Value} {cs:Array Value} (h:W.ownsRow base e size v n xs) (hb:au W g t cs) (hne:e≠t) (u:Value):(W.setCell ⟨g,i,none⟩ u).ownsRow base e size v n xs:=
 bX h fun k hk=>Below.heap_setCell W ⟨g,i,none⟩ u k (fun ek=>by
  have e2:k=g:=ek;subst e2;exact aJ h hb hne hk)
theorem pF.flags (h:pF w b vf vd xc sz kR kK fl da W) {v2:Value} {fl2:List Fl} (hr:W'.ownsRow 0 174 3 v2 fl2.length (uZ fl2)) (hg:W.grownBy W' kR.ownBlock) (hv:v2.ownBlock=kR.ownBlock∨v2.ownBlock=some W.heap.size):
 pF w b vf vd xc sz v2 kK fl2 da (W'.setCell ⟨b,0,none⟩ v2):=by
 have hbW:=h.blk.grown hg (jI h.fr h.blk (by decide));have hsz:=h.kp.size;have hk2:Kept (UT b vf vd) w W':=h.kp.grown hg fun k e o ho=>by
  rcases h.bf k e with e2|e2
  ·exact .inr (.inl e2)
  ·have:=lt_of_heap ho;omega
 refine ⟨by simpa using hbW.av 0 v2,?_,?_,fun k e=> ?_,h.bd,hk2.setCell (p:=⟨b,0,none⟩) (fun _ _=> .inl rfl) _,?_,?_,h.hb⟩
 ·exact fC (i:=0) hr hbW (by decide) _
 ·exact aI (i:=0) (h.dr.kept hg (qP h.dr h.fr (by decide))) hbW (by decide) _
 ·rcases hv with e2|e2
  ·exact h.bf k (e2 ▸ e)
  ·rw[e2] at e;cases e;exact .inr hsz
 ·exact (h.bp.grown hg (jI h.fr h.bp (by decide))).far (by have:=h.hb;simp;omega) _
 ·exact (h.bx.grown hg (jI h.fr h.bx (by decide))).far (by have:=h.hb;simp;omega) _
theorem pF.data (h:pF w b vf vd xc sz kR kK fl da W) {v2:Value} {da2:List UInt8} (hr:W'.ownsRow 0 5 1 v2 da2.length (bO da2)) (hg:W.grownBy W' kK.ownBlock) (hv:v2.ownBlock=kK.ownBlock∨v2.ownBlock=some W.heap.size):
 pF w b vf vd xc sz kR v2 fl da2 (W'.setCell ⟨b,1,none⟩ v2):=by
 have hbW:=h.blk.grown hg (jI h.dr h.blk (by decide));have hsz:=h.kp.size;have hk2:Kept (UT b vf vd) w W':=h.kp.grown hg fun k e o ho=>by
  rcases h.bd k e with e2|e2
  ·exact .inr (.inr e2)
  ·have:=lt_of_heap ho;omega
 refine ⟨by simpa using hbW.av 1 v2,?_,?_,h.bf,fun k e=> ?_,hk2.setCell (p:=⟨b,1,none⟩) (fun _ _=> .inl rfl) _,?_,?_,h.hb⟩
 ·exact fC (i:=1) (h.fr.kept hg (qP h.fr h.dr (by decide))) hbW (by decide) _
 ·exact aI (i:=1) hr hbW (by decide) _
 ·rcases hv with e2|e2
  ·exact h.bd k (e2 ▸ e)
  ·rw[e2] at e;cases e;exact .inr hsz
 ·exact (h.bp.grown hg (jI h.dr h.bp (by decide))).far (by have:=h.hb;simp;omega) _
 ·exact (h.bx.grown hg (jI h.dr h.bx (by decide))).far (by have:=h.hb;simp;omega) _
end
section
variable {w W W':World} {b:Nat} {vf vd kR kK:Value} {xc:Array Value} {sz:Int} {fl:List Fl} {da:List UInt8}
theorem zy {base size n:Nat} {e:TypeId} {v:Value} {xs:List Value} {row:Option Nat} (h:W.ownsRow base e size v n xs) (hg:W.grownBy W' row) (hr:∀r,row=some r→∃o:Obj,W.heap[r]? =some o∧o.isCells=false):W'.ownsRow base e size v n xs:=by
 refine h.kept hg ?_;cases hv:v.ownBlock with
 |none=>exact .inl rfl
 |some k=>
  refine .inr fun e2=> ?_
  obtain ⟨o,ho,hc⟩:=hr k e2.symm;obtain ⟨o2,ho2,⟨c1,f1,rfl⟩,_⟩:=bU h hv;rw[ho2] at ho;cases ho;cases hc
theorem pF.quiet (h:pF w b vf vd xc sz kR kK fl da W) {row:Option Nat} (hg:W.grownBy W' row) (hr:∀r,row=some r→w.heap.size≤r∧∃o:Obj,W.heap[r]? =some o∧o.isCells=false):pF w b vf vd xc sz kR kK fl da W':=
 have hr':=fun r e=>(hr r e).2
 ⟨eH h.blk hg hr',zy h.fr hg hr',zy h.dr hg hr',h.bf,h.bd,h.kp.grown hg (fun k e o ho=>by have:=lt_of_heap ho;have:=(hr k e).1;omega),eH h.bp hg hr',eH h.bx hg hr',h.hb⟩
theorem pF.WL {gd n cd at_:Nat} (h:pF w b vf vd xc sz kR (.slice (some ⟨gd,0,none⟩) n cd) fl da W) (hn:da.length=n) (x:UInt8):pF w b vf vd xc sz kR (.slice (some ⟨gd,0,none⟩) n cd) fl (da.set at_ x) (W.setCell ⟨gd,at_,none⟩ (bv x)):=by
 subst hn;have hg:=aO W gd at_ (bv x);have hd:=h.dr;have hr:=(hd.stored at_ (bv x)).1;have hne:∀{g:Nat} {t:TypeId} {cs:Array Value},au W g t cs→5≠t→some g≠some gd:=fun hb hne=>jI hd hb hne
 refine ⟨h.blk.grown hg (hne h.blk (by decide)),h.fr.kept hg (qP h.fr hd (by decide)),?_,h.bf,h.bd,h.kp.grown hg (fun k e o ho=> ?_),h.bp.grown hg (hne h.bp (by decide)),h.bx.grown hg (hne h.bx (by decide)),h.hb⟩
 ·have e:bO (da.set at_ x)=(bO da).set at_ (bv x):=by simp[bO,List.map_set]
  rw[e,List.length_set];exact hr
 ·cases e;rcases h.bd gd rfl with e2|e2
  ·exact .inr (.inr e2)
  ·have:=lt_of_heap ho;omega
theorem pF.zz {gf n cf at_:Nat} (h:pF w b vf vd xc sz (.slice (some ⟨gf,0,none⟩) n cf) kK fl da W) (hn:fl.length=n) (hat:at_<n) (f:Fl):
 pF w b vf vd xc sz (.slice (some ⟨gf,0,none⟩) n cf) kK (fl.set at_ f) da (((W.setCell ⟨gf,at_*3,none⟩ (.bool f.1)).setCell ⟨gf,at_*3+1,none⟩ (.bool f.2.1)).setCell ⟨gf,at_*3+2,none⟩ (.bool f.2.2)):=by
 subst hn;have hd:=h.fr;have hr1:=(hd.stored (at_*3) (.bool f.1)).1;have hr2:=(hr1.stored (at_*3+1) (.bool f.2.1)).1;have hr3:=(hr2.stored (at_*3+2) (.bool f.2.2)).1;have hg:W.grownBy (((W.setCell ⟨gf,at_*3,none⟩ (.bool f.1)).setCell ⟨gf,at_*3+1,none⟩ (.bool f.2.1)).setCell ⟨gf,at_*3+2,none⟩ (.bool f.2.2)) (some gf):=
  ((aO W gf _ _).trans (aO _ gf _ _)).trans (aO _ gf _ _)
 have hne:∀{g:Nat} {t:TypeId} {cs:Array Value},au W g t cs→174≠t→some g≠some gf:=fun hb hne=>jI hd hb hne
 refine ⟨h.blk.grown hg (hne h.blk (by decide)),?_,h.dr.kept hg (qP h.dr hd (by decide)),h.bf,h.bd,h.kp.grown hg (fun k e o ho=> ?_),h.bp.grown hg (hne h.bp (by decide)),h.bx.grown hg (hne h.bx (by decide)),h.hb⟩
 ·rw[KM _ _ _ hat] at hr3;rw[List.length_set];exact hr3
 ·cases e;rcases h.bf gf rfl with e2|e2
  ·exact .inr (.inl e2)
  ·have:=lt_of_heap ho;omega
end
section
variable {w W W':World} {b:Nat} {vf vd kR kK:Value} {xc:Array Value} {sz:Int} {fl:List Fl} {da:List UInt8}
theorem pF.aac (h:pF w b vf vd xc sz kR kK fl da W) {D:Nat} {o:Obj} (o':Obj) (hD:W.heap[D]? =some o) (hc:o.isCells=false) (hDl:w.heap.size≤D):pF w b vf vd xc sz kR kK fl da (W.putObj D o'):=
 h.quiet (grownBy_putObj' W D o') (fun r e=>by cases e;exact ⟨hDl,o,hD,hc⟩)
theorem pF.aeL (h:pF w b vf vd xc sz kR kK fl da W) (z:Int):pF w b vf vd xc z kR kK fl da (W.setCell ⟨b,2,none⟩ (.int .i64 z)):=
 ⟨by simpa using h.blk.av 2 (.int .i64 z),fC h.fr h.blk (by decide) _,fC h.dr h.blk (by decide) _,h.bf,h.bd,h.kp.setCell (p:=⟨b,2,none⟩) (fun _ _=> .inl rfl) _,h.bp.far (by have:=h.hb;simp;omega) _,h.bx.far (by have:=h.hb;simp;omega) _,h.hb⟩
end
def SG (b:Nat) (vf vd:Value) (bi Z:Nat) (j:Nat) (_:Obj):Prop:=j=b∨vf.ownBlock=some j∨vd.ownBlock=some j∨j=bi∨Z≤j
structure TkI (w:World) (b:Nat) (vf vd:Value) (xc:Array Value) (sz:Int) (E6 E7:Value) (s e:Bool) (off:Nat) (ps:List (List UInt8)) (x0:List Fl × List UInt8) (bi:Nat) (w5:World) (k:Nat) (W:World):Prop where
 t:pF w b vf vd xc sz E6 E7 (Ra s e off ps x0 k).1 (Ra s e off ps x0 k).2 W
 di:au W bi 3 #[.int .i64 k]
 kp:Kept (SG b E6 E7 bi w5.heap.size) w5 W
theorem SH (w:World) (b:Nat) (vf vd:Value) (xc:Array Value) (sz:Int) (E6 E7:Value) (s e:Bool) (off:Nat) (ps:List (List UInt8)) (x0:List Fl × List UInt8) (bi:Nat) (w5:World) (hw:w.heap.size≤w5.heap.size):
 OwnFrom w5.heap.size (TkI w b vf vd xc sz E6 E7 s e off ps x0 bi w5):=fun k X Y row hs hg hr=>by
 have hr':∀r,row=some r→∃o:Obj,X.heap[r]? =some o∧o.isCells=false:=fun r e=>(hr r e).2
 exact ⟨hs.t.quiet hg fun r e=>⟨by have:=(hr r e).1;omega,(hr r e).2⟩,eH hs.di hg hr',hs.kp.trans ((Kept.refl _ X).grown hg (fun j e _ _=> .inr (.inr (.inr (.inr (hr j e).1)))))⟩
structure Gc (w:World) (b:Nat) (vf vd:Value) (xc:Array Value) (sz:Int) (E6 E7:Value) (fl:List Fl) (da:List UInt8) (bi:Nat) (w5 W0:World) (k:Nat) (W:World):Prop where
 t:pF w b vf vd xc sz E6 E7 fl da W
 di:au W bi 3 #[.int .i64 k]
 kp:Kept (SG b E6 E7 bi w5.heap.size) w5 W
 k2:Kept (SG b E6 E7 bi w5.heap.size) W0 W
 kf:KeepsFrom w5.heap.size W0 W
section
variable {w W W' w5 W0:World} {b:Nat} {vf vd kR kK:Value} {xc:Array Value} {sz:Int} {fl:List Fl} {da:List UInt8} {bi k:Nat}
theorem Gc.below (h:Gc w b vf vd xc sz kR kK fl da bi w5 W0 k W) (hb:Below W.heap.size W W') (_hz:w5.heap.size≤W.heap.size):Gc w b vf vd xc sz kR kK fl da bi w5 W0 k W':=
 have hk:Kept (SG b kR kK bi w5.heap.size) W W':=(Kept.of_below hb).fE fun k o ho hm=>by have:=lt_of_heap ho;omega
 ⟨h.t.below hb,h.di.below hb h.di.lt,h.kp.trans hk,h.k2.trans hk,h.kf.trans ⟨hb.size,fun k o _ ho _=>(hb.block k (lt_of_heap ho)).trans ho⟩⟩
theorem Gc.drew (h:Gc w b vf vd xc sz kR kK fl da bi w5 W0 k W) (hz:w5.heap.size≤W.heap.size):Gc w b vf vd xc sz kR kK fl da bi w5 W0 k W.drew:=h.below (Below.refl _ W).drew hz
theorem Gc.WL {gd n cd at_:Nat} (h:Gc w b vf vd xc sz kR (.slice (some ⟨gd,0,none⟩) n cd) fl da bi w5 W0 k W) (hn:da.length=n) (x:UInt8):Gc w b vf vd xc sz kR (.slice (some ⟨gd,0,none⟩) n cd) fl (da.set at_ x) bi w5 W0 k (W.setCell ⟨gd,at_,none⟩ (bv x)):=by
 have hk:Kept (SG b kR (.slice (some ⟨gd,0,none⟩) n cd) bi w5.heap.size) W (W.setCell ⟨gd,at_,none⟩ (bv x)):=(Kept.refl _ W).setCell (p:=⟨gd,at_,none⟩) (fun _ _=> .inr (.inr (.inl rfl))) _;have hd:=h.t.dr;rw[hn] at hd;exact ⟨h.t.WL hn x,h.di.grown (aO W gd at_ (bv x)) (jI hd h.di (by decide)),h.kp.trans hk,h.k2.trans hk,h.kf.trans ((KeepsOthers.setCell _ _ _).from _)⟩
theorem Gc.zz {gf n cf at_:Nat} (h:Gc w b vf vd xc sz (.slice (some ⟨gf,0,none⟩) n cf) kK fl da bi w5 W0 k W) (hn:fl.length=n) (hat:at_<n) (f:Fl):
 Gc w b vf vd xc sz (.slice (some ⟨gf,0,none⟩) n cf) kK (fl.set at_ f) da bi w5 W0 k (((W.setCell ⟨gf,at_*3,none⟩ (.bool f.1)).setCell ⟨gf,at_*3+1,none⟩ (.bool f.2.1)).setCell ⟨gf,at_*3+2,none⟩ (.bool f.2.2)):=by
 have hM:∀o:Obj,SG b (.slice (some ⟨gf,0,none⟩) n cf) kK bi w5.heap.size gf o:=fun _=> .inr (.inl rfl)
 have hk:Kept (SG b (.slice (some ⟨gf,0,none⟩) n cf) kK bi w5.heap.size) W (((W.setCell ⟨gf,at_*3,none⟩ (.bool f.1)).setCell ⟨gf,at_*3+1,none⟩ (.bool f.2.1)).setCell ⟨gf,at_*3+2,none⟩ (.bool f.2.2)):=
  (((Kept.refl _ W).setCell (p:=⟨gf,_,none⟩) (fun _ _=>hM _) _).setCell (p:=⟨gf,_,none⟩) (fun _ _=>hM _) _).setCell (p:=⟨gf,_,none⟩) (fun _ _=>hM _) _
 have hd:=h.t.fr;rw[hn] at hd;have hg:W.grownBy (((W.setCell ⟨gf,at_*3,none⟩ (.bool f.1)).setCell ⟨gf,at_*3+1,none⟩ (.bool f.2.1)).setCell ⟨gf,at_*3+2,none⟩ (.bool f.2.2)) (some gf):=
  ((aO W gf _ _).trans (aO _ gf _ _)).trans (aO _ gf _ _)
 exact ⟨h.t.zz hn hat f,h.di.grown hg (jI hd h.di (by decide)),h.kp.trans hk,h.k2.trans hk,h.kf.trans ((((KeepsOthers.setCell _ _ _).from _).trans ((KeepsOthers.setCell _ _ _).from _)).trans ((KeepsOthers.setCell _ _ _).from _))⟩
theorem Gc.next (h:Gc w b vf vd xc sz kR kK fl da bi w5 W0 k W) (hbi:b≠bi) (h1:bi≠w.heap.size) (h2:bi≠w.heap.size+1) (hw:w.heap.size≤bi):Gc w b vf vd xc sz kR kK fl da bi w5 W0 (k+1) (W.setCell ⟨bi,0,none⟩ (.int .i64 ((k+1:Nat):Int))):=by
 have hk:Kept (SG b kR kK bi w5.heap.size) W (W.setCell ⟨bi,0,none⟩ (.int .i64 ((k+1:Nat):Int))):=(Kept.refl _ W).setCell (p:=⟨bi,0,none⟩) (fun _ _=> .inr (.inr (.inr (.inl rfl)))) _;refine ⟨⟨h.t.blk.far (by simpa using hbi) _,fC h.t.fr h.di (by decide) _,fC h.t.dr h.di (by decide) _,h.t.bf,h.t.bd,h.t.kp.setCell (p:=⟨bi,0,none⟩) (fun o ho=>by have:=lt_of_heap ho;simp at this;omega) _,h.t.bp.far (by simpa using fun e=>h1 e.symm) _,h.t.bx.far (by simpa using fun e=>h2 e.symm) _,h.t.hb⟩,?_,h.kp.trans hk,h.k2.trans hk,h.kf.trans ((KeepsOthers.setCell _ _ _).from _)⟩;simpa using h.di.av 0 (.int .i64 ((k+1:Nat):Int))
end
theorem Gd (k:Nat):(Builtin.zeroCells #[.bool false,.bool false,.bool false] k).toList=uZ (List.replicate k UR):=by
 apply List.ext_getElem?;intro j;have hl:(uZ (List.replicate k UR)).length=k*3:=by rw[Ji,List.length_replicate]
 rcases Nat.lt_or_ge j (k*3) with hj|hj
 ·have hr:(List.replicate k UR)[j/3]? =some UR:=by rw[List.getElem?_replicate,if_pos (by omega)]
  obtain ⟨g1,g2,g3⟩:=xZ _ _ _ hr;have hm:j%3=0∨j%3=1∨j%3=2:=by omega
  have he:(Builtin.zeroCells #[.bool false,.bool false,.bool false] k).toList[j]? =some (.bool false):=by
   simp only[Builtin.zeroCells,Array.getElem?_toList,Array.getElem?_map];rw[Array.getElem?_eq_getElem (by simpa using hj)];simp only[Array.getElem_range,Option.map_some,List.size_toArray,List.length_cons,List.length_nil];rcases hm with h|h|h<;>simp[h]
  rw[he];rcases hm with h|h|h
  ·rw[show j=j/3*3 by omega,g1];rfl
  ·rw[show j=j/3*3+1 by omega,g2];rfl
  ·rw[show j=j/3*3+2 by omega,g3];rfl
 ·rw[List.getElem?_eq_none (by rw[Array.length_toList,size_zeroCells];simpa using hj),List.getElem?_eq_none (by omega)]
theorem Gf (k:Nat):(Builtin.zeroCells #[.int .u8 0] k).toList=bO (List.replicate k 0):=by
 apply List.ext_getElem?;intro j;rcases Nat.lt_or_ge j k with hj|hj
 ·simp only[Builtin.zeroCells,Array.getElem?_toList,Array.getElem?_map];rw[Array.getElem?_eq_getElem (by simpa using hj)];simp[bO,hj,bv,Nat.mod_one]
 ·rw[List.getElem?_eq_none (by rw[Array.length_toList,size_zeroCells];simpa using hj),List.getElem?_eq_none (by simpa[bO] using hj)]
theorem SI:(Tryz.prog.info? 174).map (fun i=>(i.zero,i.size,i.bytes))=some (some (.agg #[.bool false,.bool false,.bool false]),3,3):=by kernel_rfl
theorem Pb:∃i,Tryz.prog.info? 174=some i∧i.zero=some (.agg #[.bool false,.bool false,.bool false])∧i.size=3∧i.bytes=3:=by
 have h:=SI;cases hi:Tryz.prog.info? 174 with
 |none=>rw[hi] at h;cases h
 |some i=>
  rw[hi] at h;simp only[Option.map_some,Option.some.injEq,Prod.mk.injEq] at h;exact ⟨i,rfl,h.1,h.2.1,h.2.2⟩
theorem Pd:Tryz.prog.underlying 163=some (.slice 174):=by kernel_rfl
end
end Go.Proofs.YtbhiklnljiehiaaGreat
