/- Words for memory: slices that read as li. -/
import Derived.Test.YtbhiklnljiehiaaGreatProg
import Derived.WalkKit
import Derived.WalkSpells
import Derived.WalkLawsBesides
import Derived.Lib.Hide
import Derived.Deep.QuietTactic
import Derived.BigQuiet
import Derived.Deep.LoopGhost
import Derived.Maps.AppendAt
import Derived.Deep.AppendLies
import Derived.Laws.OwnMore
import Derived.RangeFuncNested
import Derived.RegionTactic
import Derived.OwnWalk
namespace Go.Proofs.YtbhiklnljiehiaaGreat
open RowKit Tryz
theorem ah {p:Prop} (h:p):RowKit.Hid p:=h
theorem aL {n:Nat}:n<=n:=Nat.le_refl n
instance zzI:Coe Int Value:=⟨fun x=> .int .i64 x⟩
instance zzL:Coe Nat Value:=⟨fun x=> .int .i64 x⟩
instance zzJ:Coe World Nat:=⟨fun w=>w.heap.size⟩
instance zzK:Coe Nat Addr:=⟨fun g=>⟨g,0,none⟩⟩
theorem gX:type_of% @List.getElem?_eq_getElem:= @List.getElem?_eq_getElem
theorem bS:type_of% @Below.refl:= @Below.refl
theorem iP:type_of% @decide_eq_false:= @decide_eq_false
theorem iK:type_of% @decide_eq_true:= @decide_eq_true
theorem jh:type_of% @List.length_cons:= @List.length_cons
theorem aP:type_of% @if_neg:= @if_neg
theorem pN:type_of% @List.getElem?_eq_some_iff:= @List.getElem?_eq_some_iff
theorem l8:type_of% @List.length_append:= @List.length_append
theorem bD:type_of% @if_pos:= @if_pos
theorem mZ:type_of% @World.size_alloc:= @World.size_alloc
theorem kU:type_of% @List.setIfInBounds_toArray:= @List.setIfInBounds_toArray
theorem mh:type_of% @List.getElem?_append_left:= @List.getElem?_append_left
theorem nV:type_of% @List.eq_nil_of_length_eq_zero:= @List.eq_nil_of_length_eq_zero
theorem gQ:type_of% @List.length_nil:= @List.length_nil
theorem kI:type_of% @List.take_of_length_le:= @List.take_of_length_le
theorem kV:type_of% @List.getElem?_eq_none:= @List.getElem?_eq_none
theorem iT:type_of% @List.mem_of_getElem? := @List.mem_of_getElem?
theorem oH:type_of% @List.getElem?_cons_zero:= @List.getElem?_cons_zero
theorem lY:type_of% @List.getElem_cons_zero:= @List.getElem_cons_zero
theorem jl:type_of% @World.ownsRow_nil:= @World.ownsRow_nil
theorem oI:type_of% @List.getElem?_append_right:= @List.getElem?_append_right
theorem iG:type_of% @IntWalk.i64_in:= @IntWalk.i64_in
theorem nW:type_of% @List.getElem?_toArray:= @List.getElem?_toArray
theorem kJ:type_of% @List.take_succ_cons:= @List.take_succ_cons
theorem eH:type_of% @Nat.zero_le:= @Nat.zero_le
theorem kW:type_of% @List.getElem_toArray:= @List.getElem_toArray
theorem mX:type_of% @List.getElem_cons_succ:= @List.getElem_cons_succ
theorem gD:type_of% @Bool.and_eq_true:= @Bool.and_eq_true
theorem kK:type_of% @List.set_cons_succ:= @List.set_cons_succ
theorem kX:type_of% @List.set_cons_zero:= @List.set_cons_zero
theorem lZ:type_of% @Below.heap_setCell:= @Below.heap_setCell
theorem rH:type_of% @Array.getElem?_eq_getElem:= @Array.getElem?_eq_getElem
theorem gG:type_of% @Nat.le_trans:= @Nat.le_trans
theorem gY:type_of% @decide_eq_true_eq:= @decide_eq_true_eq
theorem iH:type_of% @List.mem_append:= @List.mem_append
theorem kz:type_of% @List.length_take:= @List.length_take
theorem uZ:type_of% @Array.getElem?_eq_some_iff:= @Array.getElem?_eq_some_iff
theorem mq:type_of% @Bool.false_eq_true:= @Bool.false_eq_true
theorem kC:type_of% @List.length_drop:= @List.length_drop
theorem pV:type_of% @List.drop_succ_cons:= @List.drop_succ_cons
theorem oV:type_of% @Nat.eq_zero_or_pos:= @Nat.eq_zero_or_pos
theorem mr:type_of% @Bool.eq_iff_iff:= @Bool.eq_iff_iff
theorem oJ:type_of% @List.append_assoc:= @List.append_assoc
theorem pW:type_of% @List.getElem?_take:= @List.getElem?_take
theorem oW:type_of% @List.getElem?_map:= @List.getElem?_map
theorem jA:type_of% @Nat.zero_add:= @Nat.zero_add
theorem pX:type_of% @List.take_add_one:= @List.take_add_one
theorem nX:type_of% @grownBy_putObj':= @grownBy_putObj'
theorem nu:type_of% @List.take_zero:= @List.take_zero
theorem ny:type_of% @List.drop_zero:= @List.drop_zero
theorem Dn:type_of% @List.getElem?_cons_succ:= @List.getElem?_cons_succ
theorem qJ:type_of% @List.cons_append:= @List.cons_append
theorem kD:type_of% @Nat.lt_or_ge:= @Nat.lt_or_ge
theorem pY:type_of% @List.nil_append:= @List.nil_append
theorem ve:type_of% @Calls.quiet_of_same:= @Calls.quiet_of_same
theorem sj:type_of% @Option.some.injEq:= @Option.some.injEq
theorem Ov:type_of% @List.getD_eq_getElem?_getD:= @List.getD_eq_getElem?_getD
theorem nC:type_of% @List.mem_singleton:= @List.mem_singleton
theorem vg:type_of% @List.getElem?_drop:= @List.getElem?_drop
theorem yx:type_of% @World.cell?_alloc_lt:= @World.cell?_alloc_lt
theorem qK:type_of% @Bool.not_false:= @Bool.not_false
theorem vP:type_of% @List.size_toArray:= @List.size_toArray
theorem nD:type_of% @leaves_cons:= @leaves_cons
theorem oZ:type_of% @bodyPost_ret:= @bodyPost_ret
theorem zz:type_of% @Array.replicate_zero:= @Array.replicate_zero
theorem zA:type_of% @Array.replicate_succ:= @Array.replicate_succ
theorem oK:type_of% @wpStill_nil:= @wpStill_nil
theorem nE:type_of% @List.mem_cons:= @List.mem_cons
theorem zB:type_of% @List.append_toArray:= @List.append_toArray
theorem zC:type_of% @KeepsOthers.setCell:= @KeepsOthers.setCell
theorem kY:type_of% @cond_true:= @cond_true
theorem zD:type_of% @Nat.lt_of_lt_of_le:= @Nat.lt_of_lt_of_le
theorem yA:type_of% @Below.heap_alloc:= @Below.heap_alloc
theorem Ei:type_of% @World.cell?_of_block:= @World.cell?_of_block
theorem zF:type_of% @List.push_toArray:= @List.push_toArray
theorem GX:type_of% @World.putObj_heap_other:= @World.putObj_heap_other
theorem vk:type_of% @IntKind.wrap_i64:= @IntKind.wrap_i64
theorem zG:type_of% @List.ext_getElem? := @List.ext_getElem?
theorem JZ:type_of% @World.cell?_setCell_other:= @World.cell?_setCell_other
theorem zH:type_of% @Nat.add_assoc:= @Nat.add_assoc
theorem vw:type_of% @List.map_cons:= @List.map_cons
theorem GY:type_of% @ownsRow_setCell_other:= @ownsRow_setCell_other
theorem GZ:type_of% @Int.eq_ofNat_of_zero_le:= @Int.eq_ofNat_of_zero_le
theorem l7:type_of% @if_false:= @if_false
theorem Dp:type_of% @List.not_mem_nil:= @List.not_mem_nil
theorem Dq:type_of% @List.all_eq_true:= @List.all_eq_true
theorem xI:type_of% @callsIn_wide:= @callsIn_wide
theorem uf:type_of% @Nat.add_zero:= @Nat.add_zero
theorem vz:type_of% @info_parts:= @info_parts
theorem kE:type_of% @if_true:= @if_true
theorem BA:type_of% @Prod.mk.injEq:= @Prod.mk.injEq
theorem G7:type_of% @Classical.byContradiction:= @Classical.byContradiction
theorem LQ:type_of% @List.length_replicate:= @List.length_replicate
theorem G8:type_of% @Option.map_some:= @Option.map_some
theorem Dr:type_of% @List.length_set:= @List.length_set
theorem Ej:type_of% @List.length_map:= @List.length_map
theorem Dt:type_of% @wpStill_step:= @wpStill_step
theorem Du:type_of% @Bool.true_and:= @Bool.true_and
theorem vQ:type_of% @Nat.le_succ:= @Nat.le_succ
theorem G9:type_of% @size_zeroCells:= @size_zeroCells
theorem El:type_of% @List.mem_iff_getElem? := @List.mem_iff_getElem?
theorem xP:type_of% @callsD_of_wpS:= @callsD_of_wpS
theorem uP:type_of% @Bool.false_or:= @Bool.false_or
theorem xQ:type_of% @Bool.and_self:= @Bool.and_self
theorem Em:type_of% @callsIn_of_wp_marks:= @callsIn_of_wp_marks
theorem Cx:type_of% @run_takeDeferred:= @run_takeDeferred
theorem Cy:type_of% @Option.getD_some:= @Option.getD_some
theorem xR:type_of% @List.getElem_mem:= @List.getElem_mem
theorem Cz:type_of% @IntKind.wrap_u64:= @IntKind.wrap_u64
theorem Iw:type_of% @World.putObj_heap_same:= @World.putObj_heap_same
theorem Iy:type_of% @List.getElem?_set_self:= @List.getElem?_set_self
theorem Eo:type_of% @Exit.noGoto_normal:= @Exit.noGoto_normal
theorem CB:type_of% @List.append_nil:= @List.append_nil
theorem Ep:type_of% @List.length_singleton:= @List.length_singleton
theorem zI:type_of% @Nat.mod_lt:= @Nat.mod_lt
theorem zJ:type_of% @results_none:= @results_none
theorem xS:type_of% @List.map_nil:= @List.map_nil
theorem Iz:type_of% @List.length_pos_iff:= @List.length_pos_iff
theorem TT:type_of% @List.range_succ:= @List.range_succ
theorem Er:type_of% @List.map_append:= @List.map_append
theorem xU:type_of% @wpS_region:= @wpS_region
theorem IA:type_of% @wpList_append_own:= @wpList_append_own
theorem IB:type_of% @Nat.le_succ_of_le:= @Nat.le_succ_of_le
theorem IC:type_of% @List.getElem?_set:= @List.getElem?_set
theorem Es:type_of% @Int.toNat_natCast:= @Int.toNat_natCast
theorem Et:type_of% @heap_alloc_new:= @heap_alloc_new
theorem uQ:type_of% @or_false:= @or_false
theorem ID:type_of% @Nat.mod_eq_of_lt:= @Nat.mod_eq_of_lt
theorem Eu:type_of% @List.any_eq_true:= @List.any_eq_true
theorem xV:type_of% @wpS_of_wp:= @wpS_of_wp
theorem xW:type_of% @wpIn_wide:= @wpIn_wide
theorem Ev:type_of% @callsIn_of_wp:= @callsIn_of_wp
theorem zK:type_of% @List.sum_cons:= @List.sum_cons
theorem LU:type_of% @List.getElem?_set_ne:= @List.getElem?_set_ne
theorem IE:type_of% @CallsIn.inRound:= @CallsIn.inRound
theorem block_add (a:Addr) (n:Nat):(a.add n).block=a.block:=by unfold Addr.add;split<;>rfl
theorem add_add (a:Addr) (i j:Nat):(a.add i).add j=a.add (i+j):=by
 unfold Addr.add;by_cases hi:i=0<;>by_cases hj:j=0<;>simp[hi,hj,Nat.add_assoc]
structure Sl (w:World) (B:Nat) (A:Option Addr) (n c:Nat) (xs:List Value):Prop where
 len:xs.length=n
 cap:n<=c
 mx:c<=9223372036854775807
 at_:0<n->∃ad,A=some ad/\ad.block<B/\∀j u,xs[j]? =some u->w.cell? (ad.add j)=some u
section
variable {w w':World} {B B' n c:Nat} {A:Option Addr} {xs:List Value}
theorem Sl.keep (h:Sl w B A n c xs) (hk:∀p:Addr,p.block<B->w'.cell? p=w.cell? p):Sl w' B A n c xs:=
 ⟨h.len,h.cap,h.mx,fun hn=>by
  obtain ⟨ad,e,hb,hc⟩:=h.at_ hn;exact ⟨ad,e,hb,fun j u hu=>(hk _ (by rw[block_add];exact hb)).trans (hc j u hu)⟩⟩
theorem Sl.more (h:Sl w B A n c xs) (hB:B<=B'):Sl w B' A n c xs:=
 ⟨h.len,h.cap,h.mx,fun hn=>by
  obtain ⟨ad,e,hb,hc⟩:=h.at_ hn;exact ⟨ad,e,by omega,hc⟩⟩
theorem Sl.below (h:Sl w B A n c xs) (hb:Below B w w'):Sl w' B A n c xs:=h.keep fun _ hp=>hb.cell hp
theorem Sl.drew (h:Sl w B A n c xs):Sl w.drew B A n c xs:=⟨h.len,h.cap,h.mx,h.at_⟩
theorem Sl.drewN (h:Sl w B A n c xs) (k:Nat):Sl (w.drewN k) B A n c xs:=⟨h.len,h.cap,h.mx,h.at_⟩
theorem Sl.alloc (h:Sl w B A n c xs) (hB:B<=w.heap.size) (o:Obj):Sl (w.alloc o) B A n c xs:=h.keep fun p hp=>yx w o p (by omega)
theorem Sl.get (h:Sl w B A n c xs) {k:Nat} (hk:k<n):∃ad u,A=some ad/\ad.block<B/\xs[k]? =some u/\w.cell? (ad.add k)=some u:=by
 obtain ⟨ad,e,hb,hc⟩:=h.at_ (by omega);have hl:k<xs.length:=by have:=h.len;omega
 exact ⟨ad,xs[k],e,hb,gX hl,hc k _ (gX hl)⟩
theorem Sl.aeZ:Sl w B A 0 c []↔c<=9223372036854775807:=⟨fun h=>h.mx,fun h=>⟨rfl,eH _,h,fun h=>absurd h (by omega)⟩⟩
end
def bv (b:UInt8):Value:= .int .u8 (b.toNat:Int)
def dz (l:List UInt8):List Value:=l.map bv
@[simp] theorem ug (l:List UInt8):(dz l).length=l.length:=by simp[dz]
structure jW (w:World) (B:Nat) (A:Option Addr) (n c:Nat) (vs:List Value) (ps:List (List UInt8)):Prop where
 sl:Sl w B A n c vs
 len:ps.length=n
 each:∀(i:Nat) (p:List UInt8),ps[i]? =some p->∃Ai ci,vs[i]? =some (Value.slice Ai p.length ci)/\Sl w B Ai p.length ci (dz p)
section
variable {w w':World} {B B' n c:Nat} {A:Option Addr} {vs:List Value} {ps:List (List UInt8)}
theorem jW.keep (h:jW w B A n c vs ps) (hk:∀p:Addr,p.block<B->w'.cell? p=w.cell? p):jW w' B A n c vs ps:=
 ⟨h.sl.keep hk,h.len,fun i p hi=>let ⟨Ai,ci,e,hs⟩:=h.each i p hi;⟨Ai,ci,e,hs.keep hk⟩⟩
theorem jW.more (h:jW w B A n c vs ps) (hB:B<=B'):jW w B' A n c vs ps:=
 ⟨h.sl.more hB,h.len,fun i p hi=>let ⟨Ai,ci,e,hs⟩:=h.each i p hi;⟨Ai,ci,e,hs.more hB⟩⟩
theorem jW.below (h:jW w B A n c vs ps) (hb:Below B w w'):jW w' B A n c vs ps:=h.keep fun _ hp=>hb.cell hp
theorem jW.alloc (h:jW w B A n c vs ps) (hB:B<=w.heap.size) (o:Obj):jW (w.alloc o) B A n c vs ps:=h.keep fun p hp=>yx w o p (by omega)
theorem jW.get (h:jW w B A n c vs ps) {k:Nat} (hk:k<n):
 ∃ad Ai ci,A=some ad/\ad.block<B/\w.cell? (ad.add k)=some (.slice Ai (ps[k]?.getD []).length ci)/\Sl w B Ai (ps[k]?.getD []).length ci (dz (ps[k]?.getD [])):=by
 have hl:k<ps.length:=by have:=h.len;omega
 obtain ⟨Ai,ci,e,hs⟩:=h.each k _ (gX hl);obtain ⟨ad,u,rfl,hb,hu,hc⟩:=h.sl.get hk;rw[e] at hu;cases hu;refine ⟨ad,Ai,ci,rfl,hb,?_,?_⟩<;>simpa[List.getElem?_eq_getElem hl] using ‹_›
end
def Qw (o:Obj) (t:TypeId):Prop:=∃cs fr,o= .cells cs t fr
structure Kept (M:Nat->Obj->Prop) (w w':World):Prop where
 os:w'.os=w.os
 tape:w'.tape=w.tape
 output:w'.output=w.output
 size:w.heap.size<=w'.heap.size
 same:∀k o,w.heap[k]? =some o->¬M k o->w'.heap[k]? =some o
section
variable {M M':Nat->Obj->Prop} {a b c w w':World}
theorem Kept.refl (M:Nat->Obj->Prop) (w:World):Kept M w w:=⟨rfl,rfl,rfl,aL,fun _ _ h _=>h⟩
theorem Kept.trans (h:Kept M a b) (k:Kept M b c):Kept M a c:=
 ⟨k.os.trans h.os,k.tape.trans h.tape,k.output.trans h.output,gG h.size k.size,fun i o hi hn=>k.same i o (h.same i o hi hn) hn⟩
theorem Kept.mono (h:Kept M a b) (hM:∀k o,M k o->M' k o):Kept M' a b:=
 ⟨h.os,h.tape,h.output,h.size,fun i o hi hn=>h.same i o hi (fun hm=>hn (hM i o hm))⟩
theorem Kept.iI (h:Kept M a b) (hM:∀k o,a.heap[k]? =some o->M k o->M' k o):Kept M' a b:=
 ⟨h.os,h.tape,h.output,h.size,fun i o hi hn=>h.same i o hi (fun hm=>hn (hM i o hi hm))⟩
theorem Kept.drew (h:Kept M a w):Kept M a w.drew:=⟨h.os,h.tape,h.output,h.size,h.same⟩
theorem Kept.drewN (h:Kept M a w) (n:Nat):Kept M a (w.drewN n):=⟨h.os,h.tape,h.output,h.size,h.same⟩
theorem _root_.Go.RowKit.Below.drewN {B:Nat} {a w:World} (h:Below B a w) (n:Nat):Below B a (w.drewN n):=⟨h.os,h.tape,h.output,h.size,h.block⟩
theorem lt_of_heap {w:World} {k:Nat} {o:Obj} (h:w.heap[k]? =some o):k<w:=(uZ.1 h).1
theorem Kept.alloc (h:Kept M a w) (o:Obj):Kept M a (w.alloc o):=
 ⟨h.os,h.tape,h.output,gG h.size (by simp),fun i x hi hn=>(yA w o i (lt_of_heap (h.same i x hi hn))).trans (h.same i x hi hn)⟩
theorem Kept.setCell (h:Kept M a w) {p:Addr} (hp:∀o,a.heap[p.block]? =some o->M p.block o) (u:Value):Kept M a (w.setCell p u):=
 ⟨h.os,h.tape,h.output,by simpa[World.setCell] using h.size,fun i x hi hn=>by
  refine (lZ w p u i ?_).trans (h.same i x hi hn);rintro rfl;exact hn (hp x hi)⟩
theorem Kept.grown (h:Kept M a w) {row:Option Nat} (hg:w.grownBy w' row) (hr:∀k,row=some k->∀o,a.heap[k]? =some o->M k o):Kept M a w':=
 ⟨hg.os.trans h.os,hg.tape.trans h.tape,hg.output.trans h.output,gG h.size hg.size,fun i x hi hn=>by
  have hs:=h.same i x hi hn;refine (hg.block i (lt_of_heap hs) ?_).trans hs;intro e;exact hn (hr i e.symm x hi)⟩
theorem Kept.below (h:Kept M a b) {B:Nat} (hM:∀k o,M k o->B<=k) (hB:B<=a.heap.size):Below B a b:=
 ⟨h.os,h.tape,h.output,h.size,fun k hk=>by
  have hlt:k<a.heap.size:=by omega
  have e:a.heap[k]? =some a.heap[k]:=rH hlt;rw[e];exact h.same k _ e (fun hm=>by have:=hM _ _ hm;omega)⟩
theorem Kept.of_below {B:Nat} (h:Below B a b):Kept (fun k _=>B<=k) a b:=
 ⟨h.os,h.tape,h.output,h.size,fun k o hk hn=>by
  rw[h.block k (by omega)];exact hk⟩
end
def av (w:World) (g:Nat) (t:TypeId) (cs:Array Value):Prop:=w.heap[g]? =some (.cells cs t (0,0))
section
variable {w w':World} {g:Nat} {t:TypeId} {cs:Array Value}
theorem av.lt (h:av w g t cs):g<w:=lt_of_heap h
theorem av.cell (h:av w g t cs) (i:Nat):w.cell? ⟨g,i,none⟩=cs[i]? :=cell_of_row w g i cs t (0,0) h
theorem av.frozen (h:av w g t cs) (i:Nat):w.frozen? ⟨g,i,none⟩=false:=by
 unfold av at h;simp[World.frozen?,h]
theorem av.new (w:World) (t:TypeId) (cs:Array Value):av (w.alloc (.cells cs t)) w t cs:=Et w _
theorem av.drew (h:av w g t cs):av w.drew g t cs:=h
theorem av.drewN (h:av w g t cs) (n:Nat):av (w.drewN n) g t cs:=h
theorem av.alloc (h:av w g t cs) (o:Obj):av (w.alloc o) g t cs:=(yA w o g h.lt).trans h
theorem av.ay (h:av w g t cs) (i:Nat) (u:Value):av (w.setCell ⟨g,i,none⟩ u) g t (cs.setIfInBounds i u):=by
 unfold av at h ⊢;simp[World.setCell,Array.getElem?_modify,h]
theorem av.far (h:av w g t cs) {p:Addr} (hp:g≠p.block) (u:Value):av (w.setCell p u) g t cs:=(lZ w p u g hp).trans h
theorem av.below {B:Nat} (h:av w g t cs) (hb:Below B w w') (hg:g<B):av w' g t cs:=(hb.block g hg).trans h
theorem av.grown {row:Option Nat} (h:av w g t cs) (hb:w.grownBy w' row) (hg:some g≠row):av w' g t cs:=(hb.block g h.lt hg).trans h
theorem av.kept {M:Nat->Obj->Prop} (h:av w g t cs) (hb:Kept M w w') (hn:¬M g (.cells cs t (0,0))):av w' g t cs:=hb.same _ _ h hn
theorem aK {base:Nat} {e:TypeId} {size n:Nat} {v:Value} {xs:List Value} (h:w.ownsRow base e size v n xs) (hg:av w g t cs) (hne:e≠t):v.ownBlock≠some g:=by
 rcases h.2 with ⟨rfl,_⟩|⟨g',cap,cur,rfl,_,hh,_⟩
 ·simp[Value.ownBlock]
 ·intro he;have:g'=g:=by simpa[Value.ownBlock] using he
  subst this;unfold av at hg;rw[hg] at hh;injection hh with hh
  injection hh with _ ht
  exact hne ht.symm
end
theorem aR (W:World) (b i:Nat) (v:Value):W.grownBy (W.setCell ⟨b,i,none⟩ v) (some b):=
 ⟨rfl,rfl,rfl,by simp[World.setCell],fun k _ hk=>lZ W ⟨b,i,none⟩ v k (fun e=>hk (by rw[e]))⟩
theorem _root_.Go.World.ownsRow.drew' {w:World} {base:Nat} {e:TypeId} {size n:Nat} {v:Value} {xs:List Value} (h:w.ownsRow base e size v n xs):w.drew.ownsRow base e size v n xs:=h
theorem dR {w:World} {base:Nat} {e:TypeId} {size n k:Nat} {v:Value} {xs:List Value} (h:w.ownsRow base e size v n xs) (hk:v.ownBlock=some k):∃o,w.heap[k]? =some o/\Qw o e/\base<=k:=by
 rcases h.2 with ⟨rfl,_⟩|⟨g',cap,cur,rfl,hb,hh,_⟩
 ·simp[Value.ownBlock] at hk
 ·have:g'=k:=by simpa[Value.ownBlock] using hk
  subst this;exact ⟨_,hh,⟨_,_,rfl⟩,hb⟩
def MB (M:Nat->Obj->Prop) (N:Nat) (k:Nat) (o:Obj):Prop:=M k o\/(N<=k/\o.isCells=false)
theorem MB.b {M:Nat->Obj->Prop} (w:World):∀(W:World) (l:Nat) (o o':Obj),w<=l->W.heap[l]? =some o->o.isCells=false->o.isWalk=false->Kept (MB M w) W (W.putObj l o'):=
 fun W l o o' hl ho hc _=>(Kept.refl _ W).grown (nX W l o') (fun k e x hx=>by
  cases e;rw[ho] at hx;cases hx;exact .inr ⟨hl,hc⟩)
theorem zL {β:Type} {M:Nat->Obj->Prop} {N:Nat} {w₀:World}:OwnFrom N (fun (_:β) W=>Kept (MB M N) w₀ W):=
 fun _ X Y row hs hg hr=>hs.trans ((Kept.refl _ X).grown hg (fun k e x hx=>by
  obtain ⟨h1,o,ho,hc⟩:=hr k e;rw[ho] at hx;cases hx;exact .inr ⟨h1,hc⟩))
theorem Kept.drop {M:Nat->Obj->Prop} {w W:World} (h:Kept (MB M w) w W):Kept M w W:=
 h.iI fun k o ho hm=>hm.resolve_right fun hh=>by have:=lt_of_heap ho;omega
theorem Kept.mb {M:Nat->Obj->Prop} {N:Nat} {w W:World} (h:Kept M w W):Kept (MB M N) w W:=h.mono fun _ _ hm=> .inl hm
theorem Kept.from {M:Nat->Obj->Prop} {N:Nat} {w W:World} (h:Kept M w W) (hM:∀k o,w.heap[k]? =some o->o.isCells=false->N<=k->¬M k o):KeepsFrom N w W:=
 ⟨h.size,fun k o hk ho hc=>h.same k o ho (hM k o ho hc hk)⟩
theorem Kept.taken {M:Nat->Obj->Prop} {N:Nat} {w W:World} (h:Kept (MB M N) w W) {D:Nat} {o:Obj} (o':Obj) (hD:N<=D) (ho:W.heap[D]? =some o) (hc:o.isCells=false):Kept (MB M N) w (W.putObj D o'):=
 h.trans ((Kept.refl _ W).grown (nX W D o') (fun k e x hx=>by
  cases e;rw[ho] at hx;cases hx;exact .inr ⟨hD,hc⟩))
section
variable {P:Program} (w:World)
theorem mD (base:Nat) (t ty e:TypeId) (i:TypeInfo) (size:Nat) (ht:P.underlying t=some (.slice e)) (hi:P.info? e=some i)
 (v:Value) (n:Nat) (xs:List Value) (hown:w.ownsRow base e size v n xs) (c:Nat):(Builtin.append_ #[t,t] ty #[v,.slice none 0 c]).run P w= .ok v w:=by
 rcases hown.2 with ⟨rfl,rfl⟩|⟨g,cap,cur,rfl,_,_,hnc,_⟩
 ·simp[Builtin.append_,run_underlying ht,sizeOf,typeInfo,hi,Builtin.lenOf,Builtin.firstCells]
 ·simp[Builtin.append_,run_underlying ht,sizeOf,typeInfo,hi,Builtin.lenOf,Builtin.firstCells,hnc,storeCells]
theorem He (base:Nat) (t ty e:TypeId) (i:TypeInfo) (z:Value) (bytes:Nat) (ht:P.underlying t=some (.slice e)) (hi:P.info? e=some i) (hz:i.zero=some z)
 (hsize:i.size=1) (hby:i.bytes=bytes) (hzs:z.cells.size=1)
 (v:Value) (n:Nat) (xs:List Value) (hown:w.ownsRow base e 1 v n xs)
 (B:Nat) (A:Option Addr) (m c:Nat) (news:List Value) (hr:Sl w B A m c news) (h1:∀u∈news,u.oneCell'=true)
 (h63:n+m<=maxLen) (hbytes:(n+m)*bytes<=140737488355328) (hbase:base<=w):
 ∃v' w',(Builtin.append_ #[t,t] ty #[v,.slice A m c]).run P w= .ok v' w'/\w'.ownsRow base e 1 v' (n+m) (xs++news)/\w.grownBy w' v.ownBlock/\
  (v'.ownBlock=v.ownBlock\/v'.ownBlock=some w.heap.size):=by
 rcases A with _|ad
 ·have hm:m=0:=by
   rcases oV m with h0|h0
   ·exact h0
   ·obtain ⟨ad,h,_⟩:=hr.at_ h0;cases h
  subst hm;have hn:news= []:=nV hr.len;subst hn;exact ⟨v,w,mD w base t ty e i 1 ht hi v n xs hown c,by simpa using hown,World.grownBy.refl w _,.inl rfl⟩
 ·have hcells:∀j u,news[j]? =some u->w.cell? (ad.add j)=some u:=by
   intro j u hu;rcases oV m with h0|h0
   ·subst h0;have hn:news= []:=nV hr.len;subst hn;simp at hu
   ·obtain ⟨Ew,h,_,hc⟩:=hr.at_ h0;injection h with h
    subst h;exact hc j u hu
  obtain ⟨v',w',hrun,h2,h3,_,h5⟩:=run_append_own_at (P:=P) w base t ty e i z 1 bytes ht hi hz hsize hby hzs (by omega) v n xs hown ad m c news (by rw[hr.len];omega) hcells h1 h63 hbytes hbase;exact ⟨v',w',hrun,h2,h3,h5⟩
theorem zM {o:Oper} {a:Act} {K:Act->World->Prop} {Q:Exit->Act->World->Prop} (s x:Operand) (t:TypeId)
 (ho:o.op= .call {callee:= .builtin .append,args:= #[s,x],argTypes:= #[t,t]})
 (base:Nat) (e:TypeId) (i:TypeInfo) (z:Value) (bytes:Nat) (ht:P.underlying t=some (.slice e)) (hi:P.info? e=some i) (hz:i.zero=some z)
 (hsize:i.size=1) (hby:i.bytes=bytes) (hzs:z.cells.size=1)
 (v:Value) (n:Nat) (xs:List Value) (hs:a.eval s=v) (hown:w.ownsRow base e 1 v n xs)
 (B:Nat) (A:Option Addr) (m c:Nat) (news:List Value) (hx:a.eval x= .slice A m c) (hr:Sl w B A m c news) (h1:∀u∈news,u.oneCell'=true)
 (h63:n+m<=maxLen) (hbytes:(n+m)*bytes<=140737488355328) (hbase:base<=w)
 (h:∀v' w',w'.ownsRow base e 1 v' (n+m) (xs++news)->w.grownBy w' v.ownBlock->(v'.ownBlock=v.ownBlock\/v'.ownBlock=some w.heap.size)->K (a.put o.dst v') w'):o.wp P a w K Q:=by
 obtain ⟨v',w',hrun,h2,h3,h4⟩:=He (P:=P) w base t o.type e i z bytes ht hi hz hsize hby hzs v n xs hown B A m c news hr h1 h63 hbytes hbase;unfold Oper.wp execOp;simp only[ho,resolve,invoke,builtin,Sem.run_bind,Sem.run_pure,Result.andThen_ok,List.map_toArray,vw,xS,hs,hx,hrun];exact h v' w' h2 h3 h4
theorem nG {ops:Array Oper} {rest:List Oper} {o:Oper} {a:Act} {Q:Exit->Act->World->Prop} (hgd:o.guard=none) (s x:Operand) (t:TypeId)
 (ho:o.op= .call {callee:= .builtin .append,args:= #[s,x],argTypes:= #[t,t]})
 (base:Nat) (e:TypeId) (i:TypeInfo) (z:Value) (bytes:Nat) (ht:P.underlying t=some (.slice e)) (hi:P.info? e=some i) (hz:i.zero=some z)
 (hsize:i.size=1) (hby:i.bytes=bytes) (hzs:z.cells.size=1)
 (v:Value) (n:Nat) (xs:List Value) (hs:a.eval s=v) (hown:w.ownsRow base e 1 v n xs)
 (B:Nat) (A:Option Addr) (m c:Nat) (news:List Value) (hx:a.eval x= .slice A m c) (hr:Sl w B A m c news) (h1:∀u∈news,u.oneCell'=true)
 (h63:n+m<=maxLen) (hbytes:(n+m)*bytes<=140737488355328) (hbase:base<=w)
 (h:∀v' w',w'.ownsRow base e 1 v' (n+m) (xs++news)->w.grownBy w' v.ownBlock->(v'.ownBlock=v.ownBlock\/v'.ownBlock=some w.heap.size)->wpList P ops Q rest (a.put o.dst v') w'):wpList P ops Q (o::rest) a w:=
 wpList_plain hgd fun _ hK=>zM w s x t ho base e i z bytes ht hi hz hsize hby hzs v n xs hs hown B A m c news hx hr h1 h63 hbytes hbase fun v' w' h2 h3 h4=>hK _ _ (h v' w' h2 h3 h4)
theorem fA {ops:Array Oper} {o:Oper} {a:Act} {K:Act->World->Prop} {Q:Exit->Act->World->Prop} {E:Prop} (hgd:o.guard=none) (s x:Operand) (t:TypeId)
 (ho:o.op= .call {callee:= .builtin .append,args:= #[s,x],argTypes:= #[t,t]})
 (base:Nat) (e:TypeId) (i:TypeInfo) (z:Value) (bytes:Nat) (ht:P.underlying t=some (.slice e)) (hi:P.info? e=some i) (hz:i.zero=some z)
 (hsize:i.size=1) (hby:i.bytes=bytes) (hzs:z.cells.size=1)
 (v:Value) (n:Nat) (xs:List Value) (hs:a.eval s=v) (hown:w.ownsRow base e 1 v n xs)
 (B:Nat) (A:Option Addr) (m c:Nat) (news:List Value) (hx:a.eval x= .slice A m c) (hr:Sl w B A m c news) (h1:∀u∈news,u.oneCell'=true)
 (h63:n+m<=maxLen) (hbytes:(n+m)*bytes<=140737488355328) (hbase:base<=w)
 (h:∀v' w',w'.ownsRow base e 1 v' (n+m) (xs++news)->w.grownBy w' v.ownBlock->(v'.ownBlock=v.ownBlock\/v'.ownBlock=some w.heap.size)->K (a.put o.dst v') w'):
 if Region.wanted o (yielded ops a.tmps)=true then Oper.wp P o a w K Q else E:=by
 have hw:Region.wanted o (yielded ops a.tmps)=true:=by simp[Region.wanted,hgd]
 rw[bD hw];exact zM w s x t ho base e i z bytes ht hi hz hsize hby hzs v n xs hs hown B A m c news hx hr h1 h63 hbytes hbase h
end
theorem J2 (l:List UInt8):∀u∈dz l,u.oneCell'=true:=by
 intro u hu;simp only[dz,List.mem_map] at hu;obtain ⟨b,_,rfl⟩:=hu;rfl
theorem own_below {w w':World} {base B:Nat} {e:TypeId} {size n:Nat} {v:Value} {xs:List Value} (h:w.ownsRow base e size v n xs) (hb:Below B w w') (hB:w.heap.size<=B):w'.ownsRow base e size v n xs:=by
 rcases h.2 with ⟨rfl,h0⟩|⟨g',cap,cur,rfl,h1,h2,h3⟩
 ·exact ⟨h.1,.inl ⟨rfl,h0⟩⟩
 ·exact ⟨h.1,.inr ⟨g',cap,cur,rfl,h1,(hb.block _ (by have:=lt_of_heap h2;omega)).trans h2,h3⟩⟩
theorem bF {w:World} {base base':Nat} {e:TypeId} {size n:Nat} {v:Value} {xs:List Value} (h:w.ownsRow base e size v n xs) (hb:base'<=base):w.ownsRow base' e size v n xs:=by
 rcases h.2 with ⟨rfl,h0⟩|⟨g',cap,cur,rfl,h1,h3⟩
 ·exact ⟨h.1,.inl ⟨rfl,h0⟩⟩
 ·exact ⟨h.1,.inr ⟨g',cap,cur,rfl,by omega,h3⟩⟩
theorem aY {w:World} {base:Nat} {e:TypeId} {v:Value} {n:Nat} {xs:List Value} (h:w.ownsRow base e 1 v n xs):
 ∃A c,v= .slice A n c/\Sl w w A n c xs/\(0<n->∃ad,A=some ad/\base<=ad.block):=by
 rcases h.2 with ⟨rfl,rfl⟩|⟨g,cap,cur,rfl,hb,hg,hnc,hcm,hcs,ht⟩
 ·exact ⟨none,0,rfl,⟨by simpa using h.1,aL,by omega,fun h=>absurd h (by omega)⟩,fun h=>absurd h (by omega)⟩
 ·refine ⟨_,_,rfl,⟨by simpa using h.1,hnc,hcm,fun _=>⟨_,rfl,lt_of_heap hg,h.cells (g:=g) rfl⟩⟩,fun _=>⟨_,rfl,hb⟩⟩
def nY (l:List Bool) (j:Nat):Nat:=(l.getD j false).toNat
theorem iQ (l:List Bool) (j:Nat):nY l j<=1:=by unfold nY;cases l.getD j false<;>simp
def iU (l:List Bool) (i:Nat):Nat:=
 128*nY l (8*i)+64*nY l (8*i+1)+32*nY l (8*i+2)+16*nY l (8*i+3)+8*nY l (8*i+4)+4*nY l (8*i+5)+2*nY l (8*i+6)+nY l (8*i+7)
theorem Ex (l:List Bool) (i:Nat):iU l i<256:=by
 unfold iU;have h0:=iQ l (8*i);have h1:=iQ l (8*i+1);have h2:=iQ l (8*i+2);have h3:=iQ l (8*i+3);have h4:=iQ l (8*i+4);have h5:=iQ l (8*i+5);have h6:=iQ l (8*i+6);have h7:=iQ l (8*i+7);omega
def bI (n:Nat):Nat:=(n+7)/8
def pack (l:List Bool):List UInt8:=(List.range (bI l.length)).map fun i=>UInt8.ofNat (iU l i)
@[simp] theorem ji (l:List Bool):(pack l).length=bI l.length:=by simp[pack]
theorem pZ (l:List Bool) (i:Nat) (h:i<bI l.length):(pack l)[i]? =some (UInt8.ofNat (iU l i)):=by
 simp[pack,h]
theorem Ey (l:List Bool) (b:Bool):nY (l++ [b]) l.length=b.toNat:=by simp[nY]
theorem fD (l:List Bool) (b:Bool) (j:Nat) (h:j≠l.length):nY (l++ [b]) j=nY l j:=by
 unfold nY
 congr 1
 rcases kD j l.length with hl|hl
 ·simp[List.getD_eq_getElem?_getD,List.getElem?_append_left hl]
 ·simp[List.getD_eq_getElem?_getD,List.getElem?_eq_none hl,List.getElem?_eq_none (show (l++ [b]).length<=j by simp;omega)]
theorem IG (l:List Bool) (j:Nat) (h:l.length<=j):nY l j=0:=by
 unfold nY;simp[List.getD_eq_getElem?_getD,List.getElem?_eq_none h]
theorem su (l:List Bool) (b:Bool) (i:Nat) (h:i≠l.length/8):iU (l++ [b]) i=iU l i:=by
 unfold iU;rw[fD l b _ (by omega),fD l b _ (by omega),fD l b _ (by omega),fD l b _ (by omega),
  fD l b _ (by omega),fD l b _ (by omega),fD l b _ (by omega),fD l b _ (by omega)]
theorem uR (l:List Bool) (b:Bool):iU (l++ [b]) (l.length/8)=iU l (l.length/8)+b.toNat*2 ^ (7-l.length%8):=by
 have key:∀j,nY (l++ [b]) j=nY l j+if j=l.length then b.toNat else 0:=by
  intro j;by_cases e:j=l.length
  ·subst e;rw[Ey,IG l _ (aL),bD rfl];omega
  ·rw[fD l b j e,aP e];omega
 unfold iU;simp only[key];have hq:=Nat.div_add_mod l.length 8;have hr:=zI l.length (show 0<8 by omega);generalize l.length/8=q at*;generalize hr':l.length%8=r at*;generalize l.length=n at*;subst hq
 match r,hr with
 |0,_=>simp;omega
 |1,_=>simp;omega
 |2,_=>simp;omega
 |3,_=>simp;omega
 |4,_=>simp;omega
 |5,_=>simp;omega
 |6,_=>simp;omega
 |7,_=>simp;omega
theorem Ez (l:List Bool):iU l (l.length/8)%2 ^ (8-l.length%8)=0:=by
 unfold iU;have key:∀j,l.length<=j->nY l j=0:=fun j h=>IG l j h
 have hq:=Nat.div_add_mod l.length 8;have hr:=zI l.length (show 0<8 by omega);generalize l.length/8=q at*;generalize hr':l.length%8=r at*;generalize l.length=n at*;subst hq
 match r,hr with
 |0,_=>simp only[key _ (show 8*q+0<=8*q+7 by omega),key _ (show 8*q+0<=8*q+6 by omega),key _ (show 8*q+0<=8*q+5 by omega),key _ (show 8*q+0<=8*q+4 by omega),key _ (show 8*q+0<=8*q+3 by omega),key _ (show 8*q+0<=8*q+2 by omega),key _ (show 8*q+0<=8*q+1 by omega),key _ (show 8*q+0<=8*q by omega)]
 |1,_=>simp only[key _ (show 8*q+1<=8*q+7 by omega),key _ (show 8*q+1<=8*q+6 by omega),key _ (show 8*q+1<=8*q+5 by omega),key _ (show 8*q+1<=8*q+4 by omega),key _ (show 8*q+1<=8*q+3 by omega),key _ (show 8*q+1<=8*q+2 by omega),key _ (show 8*q+1<=8*q+1 by omega)];omega
 |2,_=>simp only[key _ (show 8*q+2<=8*q+7 by omega),key _ (show 8*q+2<=8*q+6 by omega),key _ (show 8*q+2<=8*q+5 by omega),key _ (show 8*q+2<=8*q+4 by omega),key _ (show 8*q+2<=8*q+3 by omega),key _ (show 8*q+2<=8*q+2 by omega)];omega
 |3,_=>simp only[key _ (show 8*q+3<=8*q+7 by omega),key _ (show 8*q+3<=8*q+6 by omega),key _ (show 8*q+3<=8*q+5 by omega),key _ (show 8*q+3<=8*q+4 by omega),key _ (show 8*q+3<=8*q+3 by omega)];omega
 |4,_=>simp only[key _ (show 8*q+4<=8*q+7 by omega),key _ (show 8*q+4<=8*q+6 by omega),key _ (show 8*q+4<=8*q+5 by omega),key _ (show 8*q+4<=8*q+4 by omega)];omega
 |5,_=>simp only[key _ (show 8*q+5<=8*q+7 by omega),key _ (show 8*q+5<=8*q+6 by omega),key _ (show 8*q+5<=8*q+5 by omega)];omega
 |6,_=>simp only[key _ (show 8*q+6<=8*q+7 by omega),key _ (show 8*q+6<=8*q+6 by omega)];omega
 |7,_=>simp only[key _ (show 8*q+7<=8*q+7 by omega)];omega
theorem TU (a b k:Nat) (ha:a%2 ^ (k+1)=0) (hb:b<=1):a|||b*2 ^ k=a+b*2 ^ k:=by
 have h1:b*2 ^ k<2 ^ (k+1):=by
  rw[Nat.pow_succ];have h2:0<2 ^ k:=Nat.two_pow_pos k;have:b*2 ^ k<=1*2 ^ k:=Nat.mul_le_mul_right _ hb;omega
 have h2:=Nat.two_pow_add_eq_or_of_lt h1 (a/2 ^ (k+1));have h3:2 ^ (k+1)*(a/2 ^ (k+1))=a:=Nat.mul_div_cancel' (Nat.dvd_of_mod_eq_zero ha);rw[h3] at h2;exact h2.symm
theorem Hf (l:List Bool) (b:Bool) (h:l.length%8=0):pack (l++ [b])=pack l++ [UInt8.ofNat (b.toNat*2 ^ 7)]:=by
 apply zG;intro i;have hl:bI (l++ [b]).length=bI l.length+1:=by simp[bI];omega
 have hn:bI l.length=l.length/8:=by simp[bI];omega
 rcases Nat.lt_trichotomy i (bI l.length) with hi|hi|hi
 ·rw[mh (by simpa using hi),pZ _ _ (by omega),pZ _ _ hi,su _ _ _ (by omega)]
 ·subst hi;rw[pZ _ _ (by omega),oI (by simp),hn,uR,h];have:iU l (l.length/8)=0:=by
   have:=Ez l;rw[h] at this;have h2:=Ex l (l.length/8);simp at this;omega
  simp[this,hn]
 ·rw[kV (by simp[bI] at hi ⊢;omega),kV (by simp[bI] at hi ⊢;omega)]
theorem J3 (l:List Bool) (b:Bool) (h:l.length%8≠0):
 pack (l++ [b])=(pack l).set (l.length/8) (UInt8.ofNat (iU l (l.length/8)|||b.toNat*2 ^ (7-l.length%8))):=by
 apply zG;intro i;have hl:bI (l++ [b]).length=bI l.length:=by simp[bI];omega
 have hn:bI l.length=l.length/8+1:=by simp[bI];omega
 have hr:=zI l.length (show 0<8 by omega);rcases kD i (bI l.length) with hi|hi
 ·rw[pZ _ _ (by omega),IC];by_cases e:l.length/8=i
  ·subst e;rw[bD rfl,bD (by simp;omega),uR,TU _ _ _ (by
    have:=Ez l;rw[show 7-l.length%8+1=8-l.length%8 by omega];exact this) (by cases b<;>simp)]
  ·rw[aP e,pZ _ _ hi,su _ _ _ (by omega)]
 ·rw[kV (by simp[bI] at hi ⊢;omega),kV (by simp[bI] at hi ⊢;omega)]
def bitsOf (v n:Nat):List Bool:=(List.range n).map fun k=>decide (v/2 ^ (n-1-k)%2=1)
@[simp] theorem rJ (v n:Nat):(bitsOf v n).length=n:=by simp[bitsOf]
def val (l:List Bool):Nat:=l.foldl (fun v b=>2*v+b.toNat) 0
theorem LV (l:List Bool) (b:Bool):val (l++ [b])=2*val l+b.toNat:=by simp[val]
theorem Qx (l:List Bool):∀a,l.foldl (fun v b=>2*v+b.toNat) a=a*2 ^ l.length+val l:=by
 induction l with
 |nil=>intro a;simp[val]
 |cons b l ih=>
  intro a;unfold val;simp only[List.foldl_cons,jh];rw[ih,ih (2*0+b.toNat),Nat.pow_succ,Nat.add_mul,<-zH];simp only[Nat.mul_zero,jA];rw[Nat.mul_comm 2 a,Nat.mul_assoc,Nat.mul_comm 2 (2 ^ l.length)]
theorem EA (b:Bool) (l:List Bool):val (b::l)=b.toNat*2 ^ l.length+val l:=by
 show l.foldl _ (2*0+b.toNat)=_
 rw[Qx];simp
theorem val_append (a b:List Bool):val (a++b)=val a*2 ^ b.length+val b:=by
 show (a++b).foldl _ 0=_
 rw[List.foldl_append,Qx];rfl
theorem vR (l:List Bool):val l<2 ^ l.length:=by
 induction l with
 |nil=>simp[val]
 |cons b l ih=>
  rw[EA,jh,Nat.pow_succ];have:b.toNat*2 ^ l.length<=1*2 ^ l.length:=Nat.mul_le_mul_right _ (by cases b<;>simp);omega
def zN (bs:List UInt8) (j:Nat):Bool:=decide ((bs.getD (j/8) 0).toNat/2 ^ (7-j%8)%2=1)
def unpack (bs:List UInt8):List Bool:=(List.range (8*bs.length)).map (zN bs)
@[simp] theorem WO (bs:List UInt8):(unpack bs).length=8*bs.length:=by simp[unpack]
def ax (bs:List UInt8) (pos width:Nat):List Bool:=(List.range width).map fun k=>zN bs (pos+k)
@[simp] theorem gF (bs:List UInt8) (p n:Nat):(ax bs p n).length=n:=by simp[ax]
theorem vT (bs:List UInt8) (p n:Nat):ax bs p (n+1)=ax bs p n++ [zN bs (p+n)]:=by simp[ax,List.range_succ]
def nH (pos:Nat):Nat:=(8-pos%8)%8
def gT (bs:List UInt8):Nat->Bool->Nat->List Nat->Sum Nat (List Nat × Nat)
 |_,false,pos,acc=> .inr (acc,pos)
 |0,true,_,_=> .inl 9
 |f+1,true,pos,acc=>
  if 8*bs.length<pos+12 then .inl 5
  else if val (ax bs pos 12)%2048=0\/63<=acc.length then .inl 9
  else gT bs f (decide (val (ax bs pos 12)/2048=1)) (pos+12) (acc++ [val (ax bs pos 12)%2048])
def kZ (bs:List UInt8):Sum Nat (List Nat × Nat)->Sum Nat (List Nat × Nat)
 | .inl er=> .inl er
 | .inr (ls,p)=>if val (ax bs p (nH p))=0 then .inr (ls,p+nH p) else .inl 9
def uh (bs:List UInt8) (more:Bool) (pos:Nat):Sum Nat (List Nat × Nat):=kZ bs (gT bs 64 more pos [])
def splitBy:List Nat->List UInt8->List (List UInt8)
 | [],d=> [d]
 |n::l,d=>d.take n::splitBy l (d.drop n)
def mE (ls:List Nat) (d:List UInt8):Sum Nat (List (List UInt8)):=
 if d.length<=ls.sum then .inl 5 else if 32767<d.length then .inl 9 else .inr (splitBy ls d)
theorem vU (bs:List UInt8):∀(f:Nat) (more:Bool) (pos:Nat) (acc ls:List Nat) (p:Nat),gT bs f more pos acc= .inr (ls,p)->acc.length<=63->(∀n∈acc,1<=n/\n<=2047)->ls.length<=63/\∀n∈ls,1<=n/\n<=2047
 |_,false,pos,acc,ls,p,h,h1,h2=>by
  simp only[gT] at h;cases h;exact ⟨h1,h2⟩
 |0,true,_,_,_,_,h,_,_=>by simp[gT] at h
 |f+1,true,pos,acc,ls,p,h,h1,h2=>by
  simp only[gT] at h;split at h
  ·cases h
  ·split at h
   ·cases h
   ·rename_i hb;refine vU bs f _ _ _ ls p h (by simp;omega) (fun n hn=> ?_);rw[iH] at hn;rcases hn with hn|hn
    ·exact h2 n hn
    ·rw[nC] at hn;omega
theorem J4 {bs:List UInt8} {more:Bool} {pos:Nat} {ls:List Nat} {p:Nat} (h:uh bs more pos= .inr (ls,p)):ls.length<=63/\∀n∈ls,1<=n/\n<=2047:=by
 unfold uh kZ at h;split at h
 ·cases h
 ·rename_i ls' p' hr;split at h
  ·cases h;exact vU bs _ _ _ _ _ _ hr (by simp) (by simp)
  ·cases h
theorem qa (ls:List Nat):∀d,(splitBy ls d).length=ls.length+1:=by
 induction ls with
 |nil=>intro d;rfl
 |cons n l ih=>intro d;simp[splitBy,ih]
theorem CF (ls:List Nat):∀(d:List UInt8) (i n:Nat),ls[i]? =some n->(splitBy ls d)[i]? =some ((d.drop (ls.take i).sum).take n):=by
 induction ls with
 |nil=>intro d i n h;simp at h
 |cons m l ih=>
  intro d i n h;cases i with
  |zero=>simp at h;subst h;simp[splitBy]
  |succ i=>
   simp at h;have:=ih (d.drop m) i n h;simp[splitBy,this]
theorem zO (ls:List Nat):∀(d:List UInt8),(splitBy ls d)[ls.length]? =some (d.drop ls.sum):=by
 induction ls with
 |nil=>intro d;simp[splitBy]
 |cons m l ih=>
  intro d;have:=ih (d.drop m);simp[splitBy,this]
theorem BD (bs d:List UInt8) (j:Nat) (h:j<8*bs.length):zN (bs++d) j=zN bs j:=by
 unfold zN;rw[Ov,Ov,mh (by omega)]
theorem qb (bs d:List UInt8) (p k:Nat) (h:p+k<=8*bs.length):ax (bs++d) p k=ax bs p k:=by
 unfold ax;apply List.map_congr_left;intro x hx;rw[List.mem_range] at hx;exact BD _ _ _ (by omega)
theorem Ow (bs:List UInt8) (p a b:Nat):ax bs p (a+b)=ax bs p a++ax bs (p+a) b:=by
 induction b with
 |zero=>simp[ax]
 |succ b ih=>rw[<-zH,vT,vT,ih,oJ,zH]
theorem II (bs:List UInt8) (p k:Nat) (l:List Bool) (hl:l.length=k) (h:∀i,i<k->zN bs (p+i)=l.getD i false):ax bs p k=l:=by
 apply zG;intro i;unfold ax;rw[oW];by_cases hi:i<k
 ·rw[List.getElem?_range hi,gX (by omega)];have:=h i hi;simp only[G8,this,Ov,gX (show i<l.length by omega),Cy]
 ·rw[kV (by simp;omega),kV (by omega)];rfl
theorem TV (l:List Bool) (j:Nat):decide (nY l j=1)=l.getD j false:=by
 unfold nY;cases l.getD j false<;>simp
theorem Rs (l:List Bool) (j:Nat):iU l (j/8)/2 ^ (7-j%8)%2=nY l j:=by
 have hq:=Nat.div_add_mod j 8;have hr:=zI j (show 0<8 by omega);generalize j/8=q at*;generalize j%8=r at*;subst hq;unfold iU;have h0:=iQ l (8*q);have h1:=iQ l (8*q+1);have h2:=iQ l (8*q+2);have h3:=iQ l (8*q+3);have h4:=iQ l (8*q+4);have h5:=iQ l (8*q+5);have h6:=iQ l (8*q+6);have h7:=iQ l (8*q+7)
 match r,hr with
 |0,_=>simp only[uf];omega
 |1,_=>omega
 |2,_=>omega
 |3,_=>omega
 |4,_=>omega
 |5,_=>omega
 |6,_=>omega
 |7,_=>simp;omega
theorem IJ (l:List Bool) (j:Nat) (h:j<8*bI l.length):zN (pack l) j=l.getD j false:=by
 unfold zN;rw[Ov,pZ l _ (by omega),Cy,UInt8.toNat_ofNat',ID (Ex l _),Rs,TV]
theorem LW (l:List Bool) (d:List UInt8) (p k:Nat) (h:p+k<=l.length):ax (pack l++d) p k=(l.drop p).take k:=by
 have hn:l.length<=8*bI l.length:=by unfold bI;omega
 rw[qb _ _ _ _ (by rw[ji];omega)];refine II _ _ _ _ (by simp;omega) (fun i hi=> ?_);rw[IJ _ _ (by omega)];simp[List.getD_eq_getElem?_getD,hi]
theorem uS (l:List Bool) (d:List UInt8):ax (pack l++d) l.length (nH l.length)=List.replicate (nH l.length) false:=by
 have hn:l.length+nH l.length=8*bI l.length:=by unfold bI nH;omega
 rw[qb _ _ _ _ (by rw[ji];omega)];refine II _ _ _ _ (by simp) (fun i hi=> ?_);rw[IJ _ _ (by omega)];simp only[Ov,kV (show l.length<=l.length+i by omega),List.getElem?_replicate];split<;>rfl
theorem xX (n:Nat):val (List.replicate n false)=0:=by
 induction n with
 |zero=>rfl
 |succ n ih=>rw[List.replicate_succ,EA,ih];simp
theorem val_zero:∀l:List Bool,val l=0->l=List.replicate l.length false
 | [],_=>rfl
 |b::l,h=>by
  rw[EA] at h;have h1:val l=0:=by omega
  have h2:b.toNat*2 ^ l.length=0:=by omega
  have h3:b=false:=by
   rcases Nat.mul_eq_zero.1 h2 with h|h
   ·cases b<;>simp_all
   ·have:=Nat.two_pow_pos l.length;omega
  rw[jh,List.replicate_succ,<-val_zero l h1,h3]
theorem LX (v n:Nat):bitsOf v (n+1)=bitsOf (v/2) n++ [decide (v%2=1)]:=by
 unfold bitsOf;rw[TT,Er]
 congr 1
 ·apply List.map_congr_left;intro k hk;rw[List.mem_range] at hk;rw[show n+1-1-k=(n-1-k)+1 by omega,Nat.pow_succ,Nat.mul_comm,<-Nat.div_div_eq_div_mul]
 ·simp
theorem iB:∀(n v:Nat),v<2 ^ n->val (bitsOf v n)=v
 |0,v,h=>by simp at h;subst h;rfl
 |n+1,v,h=>by
  rw[LX,LV,iB n (v/2) (by rw[Nat.pow_succ] at h;omega)];rcases Nat.mod_two_eq_zero_or_one v with hv|hv
  ·simp[hv];omega
  ·simp[hv];omega
def bb (b:Bool):UInt8:=if b then 1 else 0
def bbs (l:List Bool):List UInt8:=l.map bb
@[simp] theorem aa8 (l:List Bool):(bbs l).length=l.length:=by simp[bbs]
def TW (v n k:Nat):List UInt8:=List.replicate (n-k) 0++(bbs (bitsOf v n)).drop (n-k)
@[simp] theorem WQ (v n k:Nat) (_h:k<=n):(TW v n k).length=n:=by simp[TW]
def TX (l:List Bool) (k:Nat):List UInt8:=(List.range (bI l.length)).map fun i=>UInt8.ofNat (iU (l.take k) i)
@[simp] theorem WR (l:List Bool) (k:Nat):(TX l k).length=bI l.length:=by simp[TX]
end Go.Proofs.YtbhiklnljiehiaaGreat
