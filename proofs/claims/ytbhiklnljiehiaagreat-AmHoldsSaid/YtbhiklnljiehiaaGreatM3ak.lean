/- Maps with numbers for keys, whose elemen. -/
import Derived.Test.YtbhiklnljiehiaaGreatM3aa
import Derived.Maps.OwnSet
namespace Go.Proofs.YtbhiklnljiehiaaGreat
open Maps RowKit Tryz
def U2 (v:Value):Option (DataW Value × List MemPlace):=some (.held v,[])
def ku (P:Program) (k:TypeId) (w:World) (b n:Nat) (F:Nat->Option Value):Prop:=
 ∃D:DataW Value,w.ownsMap P k U2 b n D/\IsMap D/\∀j:Nat,j<=9223372036854775807->Maps.has D (.int .i64 j)=(F j).isSome/\∀v,F j=some v->∀z,D.atKey (.int .i64 j) z= .held v
def KF (F:Nat->Option Value) (k:Nat) (v:Option Value):Nat->Option Value:=fun j=>if j=k then v else F j
section
variable {P:Program} {t k e:TypeId} {w w':World} {b n:Nat} {F:Nat->Option Value}
theorem ku.made (P:Program) (k:TypeId) (w:World):ku P k (w.alloc (.map #[] 0)) w.heap.size 0 (fun _=>none):=
 ⟨.map [],World.ownsMap_made w P k U2,isMap_empty,fun j _=>⟨rfl,fun v h=>by cases h⟩⟩
theorem ku.same (h:ku P k w b n F) (hs:w'.heap[b]? =w.heap[b]?):ku P k w' b n F:=by
 obtain ⟨D,⟨es,clock,hb,hr⟩,h2⟩:=h;exact ⟨D,⟨es,clock,hs.trans hb,hr⟩,h2⟩
theorem KG {j:Nat} (h:j<=9223372036854775807):(Lit.int .i64 (j:Int)).wf=true:=by
 simp[Lit.wf,IntKind.min,IntKind.max,IntKind.bits,IntKind.signed];omega
theorem ku.drop (h:ku P k w b n F) (hk:P.underlying k=some (.int .i64)) (ht:P.underlying t=some (.map k e)) {j:Nat} (hj:j<=9223372036854775807) (ty:TypeId):
 ∃w',(Builtin.delete_ #[t,k] ty #[.map (some b),.int .i64 j]).run P w= .ok (.tuple #[]) w'/\ku P k w' b n (KF F j none)/\w.grownBy w' (some b):=by
 obtain ⟨D,h1,hm,h2⟩:=h;obtain ⟨w',hr,h3,h4⟩:=h1.drop (int_keyed hk) ht (keyOf_int_mk hk (KG hj)) ty;refine ⟨w',hr,⟨_,h3,hm.del _,fun i hi=> ?_⟩,h4.grown⟩;unfold KF;by_cases hij:i=j
 ·subst hij;simp[Maps.has_del_same]
 ·rw[aP hij];have hne:(Lit.int .i64 (i:Int))≠Lit.int .i64 (j:Int):=by
   intro hh;injection hh with _ hh
   omega
  obtain ⟨a,b⟩:=h2 i hi;exact ⟨by rw[Maps.has_del_other hne,a],fun v hv z=>by rw[Maps.atKey_del_other hne,b v hv]⟩
theorem ku.store (h:ku P k w b n F) (hk:P.underlying k=some (.int .i64)) (ht:P.underlying t=some (.map k e)) (hn:n<maxLen) {j:Nat} (hj:j<=9223372036854775807) (val:Value):
 ∃w',(Instr.mapUpdate t (.map (some b)) (.int .i64 j) val).run P w= .ok () w'/\ku P k w' b (n+1) (KF F j (some val))/\w.grownBy w' (some b):=by
 obtain ⟨D,h1,hm,h2⟩:=h;obtain ⟨w',hr,h3,h4⟩:=h1.store (int_keyed hk) ht hn (keyOf_int_mk hk (KG hj)) (val:=val) (d:= .held val) (ps:= []) rfl;have hkl:WideAt.IsKeyLit (.int .i64 (j:Int)):=(int_keyed (P:=P) hk).key (keyOf_int_mk hk (KG hj));refine ⟨w',hr,⟨_,h3,hm.put _ _,fun i hi=> ?_⟩,h4.grown⟩;unfold KF;by_cases hij:i=j
 ·subst hij;rw[bD rfl];exact ⟨by rw[Maps.has_put_same hm hkl];rfl,fun v hv z=>by cases hv;exact Maps.atKey_put_same hm hkl _ _⟩
 ·rw[aP hij];have hne:(Lit.int .i64 (i:Int))≠Lit.int .i64 (j:Int):=by
   intro hh;injection hh with _ hh
   omega
  obtain ⟨a,b⟩:=h2 i hi;exact ⟨by rw[Maps.has_put_other hne,a],fun v hv z=>by rw[Maps.atKey_put_other hne,b v hv]⟩
end
section
variable {P:Program} (w:World) {ops:Array Oper} {rest:List Oper} {o:Oper} {a:Act} {Q:Exit->Act->World->Prop}
theorem AV (hg:o.guard=none) (m x:Operand) (t k:TypeId) (hop:o.op=Op.call {callee:=Callee.builtin Builtin.delete,args:= #[m,x],argTypes:= #[t,k]}) (e:TypeId) (hk:P.underlying k=some (.int .i64)) (ht:P.underlying t=some (.map k e))
 (b n:Nat) (F:Nat->Option Value) (hm:a.eval m= .map (some b)) (hown:ku P k w b n F) (j:Nat) (hx:a.eval x= .int .i64 j) (hj:j<=9223372036854775807)
 (hK:∀w',ku P k w' b n (KF F j none)->w.grownBy w' (some b)->wpList P ops Q rest (a.put o.dst (.tuple #[])) w'):wpList P ops Q (o::rest) a w:=by
 refine wpList_plain hg fun K' hK'=> ?_
 obtain ⟨w',hrun,r1,r2⟩:=hown.drop hk ht hj o.type;unfold Oper.wp;simp[execOp,hop,resolve,invoke,builtin,hm,hx,hrun,Result.andThen];exact hK' _ _ (hK w' r1 r2)
theorem Cm (hg:o.guard=none) (m x v:Operand) (t:TypeId) (hop:o.op=Op.mapUpdate t m x v) (k e:TypeId) (hk:P.underlying k=some (.int .i64)) (ht:P.underlying t=some (.map k e))
 (b n:Nat) (F:Nat->Option Value) (hm:a.eval m= .map (some b)) (hown:ku P k w b n F) (hn:n<maxLen) (j:Nat) (hx:a.eval x= .int .i64 j) (hj:j<=9223372036854775807) (val:Value) (hv:a.eval v=val)
 (hK:∀w',ku P k w' b (n+1) (KF F j (some val))->w.grownBy w' (some b)->wpList P ops Q rest (a.put o.dst undef) w'):wpList P ops Q (o::rest) a w:=by
 refine wpList_plain hg fun K' hK'=> ?_
 obtain ⟨w',hrun,r1,r2⟩:=hown.store hk ht hn hj val;unfold Oper.wp;simp[execOp,hop,hm,hx,hv,hrun,Result.andThen];exact hK' _ _ (hK w' r1 r2)
end
end Go.Proofs.YtbhiklnljiehiaaGreat
