/- 'append(s, make([]T, k)...)' onto a row of its own. amrecv: take: whether bytes are received behind a range; the round's memory. amrecv: the missing ranges of a stored PDU. State. amrecv: entries of a report: gaps, and what turns a range into an entry. Ranges over a function whose elements are known by their number, nested ones too: the iterator may itself range over another one; the variables of a round may be boxed. -/
import Derived.Test.YtbhiklnljiehiaaGreatM0aa
import Derived.Test.YtbhiklnljiehiaaGreatM0ae
import Derived.Test.YtbhiklnljiehiaaGreatM0af
import Derived.Test.YtbhiklnljiehiaaGreatM0ah
import Derived.Test.YtbhiklnljiehiaaGreatM0aj
import Derived.Test.YtbhiklnljiehiaaGreatM0ak
import Derived.Lib.AppendZerosOnto
import Derived.StillTailTactics
import Derived.Deep.RegionHeld3
import Derived.Deep.DeepCutAuto
import Derived.Laws.ResultCell
import Derived.RangeFuncNested
namespace Go.Proofs.YtbhiklnljiehiaaGreat
section
open Go.RowKit Go.Lib
section
variable {P:Program} (w:World)
theorem oO (t tn ty e:TypeId) (i:TypeInfo) (z:Value) (kq kn:IntKind) (ht:P.underlying t=some (.slice e)) (htn:P.underlying tn=some (.int kn)) (hi:P.info? e=some i) (hz:i.zero=some z) (hzs:z.cells.size=i.size)
 (g sLen sCap:Nat) (cur:Array Value) (hg:w.heap[g]? =some (.cells cur e (0,0))) (k:Nat) (h0:0<k) (hs:0<i.size) (h48:k*i.bytes≤281474976710656) (h63:((k:Nat):Int)≤9223372036854775807) (h1:∀u∈(Builtin.zeroCells z.cells k).toList,u.oneCell'=true)
 (hroom:sLen+k≤sCap) (hfit:sLen*i.size+k*i.size≤cur.size):
 (Builtin.append_ #[t,tn] ty #[.slice (some ⟨g,0,none⟩) sLen sCap,.int kq k]).run P w=
  .ok (.slice (some ⟨g,0,none⟩) (sLen+k) sCap) (w.setRow g (cur.toList.take (sLen*i.size)++(Builtin.zeroCells z.cells k).toList++cur.toList.drop (sLen*i.size+(Builtin.zeroCells z.cells k).toList.length)).toArray):=by
 have hl:(Builtin.zeroCells z.cells k).toList.length=k*i.size:=by rw[Array.length_toList,size_zeroCells,hzs]
 have hst:=run_storeCells_at P g (sLen*i.size) e (Builtin.zeroCells z.cells k).toList 0 cur w hg (by rw[hl];simpa using hfit) h1;simp only[Nat.add_zero] at hst;have hw:IntKind.i64.wrap (k:Int)=k:=by rw[IntKind.wrap_i64];omega
 have h48i:¬(281474976710656<(k:Int)*(i.bytes:Int)):=by
  rw[←Int.natCast_mul];omega
 have hneg:¬((k:Int)<0):=by omega
 have hns:¬(k*i.size=0):=Nat.mul_ne_zero (by omega) (by omega);simp[Builtin.append_,run_underlying ht,run_underlying htn,sizeOf,typeInfo,zeroValue,hi,hz,asInt,asIntOf,hw,hneg,hns,h48i,hroom,Addr.add_lit,hst]
theorem pU (base:Nat) (t tn ty e:TypeId) (i:TypeInfo) (z:Value) (size bytes:Nat) (kq kn:IntKind) (ht:P.underlying t=some (.slice e)) (htn:P.underlying tn=some (.int kn)) (hi:P.info? e=some i) (hz:i.zero=some z)
 (hsize:i.size=size) (hby:i.bytes=bytes) (hzs:z.cells.size=size) (hsz:0<size)
 (v:Value) (n:Nat) (xs:List Value) (hown:w.ownsRow base e size v n xs) (k:Nat) (h0:0<k) (h1:∀u∈(Builtin.zeroCells z.cells k).toList,u.oneCell'=true)
 (h63:n+k≤maxLen) (hbytes:(n+k)*bytes≤140737488355328) (hbase:base≤w.heap.size):
 ∃v' w',(Builtin.append_ #[t,tn] ty #[v,.int kq k]).run P w= .ok v' w'∧w'.ownsRow base e size v' (n+k) (xs++(Builtin.zeroCells z.cells k).toList)∧w.grownBy w' v.ownBlock∧(v'.ownBlock=v.ownBlock∨v'.ownBlock=some w.heap.size):=by
 subst hsize;subst hby;have hl:(Builtin.zeroCells z.cells k).toList.length=k*i.size:=by rw[Array.length_toList,size_zeroCells,hzs]
 have hlen:(xs++(Builtin.zeroCells z.cells k).toList).length=(n+k)*i.size:=by rw[List.length_append,hown.1,hl,Nat.add_mul]
 have hm63:((n+k:Nat):Int)≤9223372036854775807:=by simp only[maxLen] at h63;omega
 have hkb:k*i.bytes≤(n+k)*i.bytes:=Nat.mul_le_mul_right _ (by omega);have hxa:∀(c:Array Value),(xs.toArray++Builtin.zeroCells z.cells k++c).toList=(xs++(Builtin.zeroCells z.cells k).toList)++c.toList:=fun c=>by simp
 have grown:∀(old:Nat),old<n+k→∀(row:Option Nat),
  (w.drew.alloc (.cells (xs.toArray++Builtin.zeroCells z.cells k++Builtin.zeroCells z.cells (grownCap w (n+k) old e-(n+k))) e)).ownsRow base e i.size
   (.slice (some ⟨w.heap.size,0,none⟩) (n+k) (grownCap w (n+k) old e)) (n+k) (xs++(Builtin.zeroCells z.cells k).toList)∧
  w.grownBy (w.drew.alloc (.cells (xs.toArray++Builtin.zeroCells z.cells k++Builtin.zeroCells z.cells (grownCap w (n+k) old e-(n+k))) e)) row:=by
  intro old ho row;have hge:=grownCap_ge w (n+k) old e;have hcm:grownCap w (n+k) old e≤maxLen:=grownCap_le_maxLen w (n+k) old e h63;refine ⟨⟨hlen,.inr ⟨w.heap.size,_,_,rfl,hbase,heap_alloc_new w.drew _,hge,hcm,?_,?_⟩⟩,⟨rfl,rfl,rfl,by simp,fun k hk _=>Below.heap_alloc w.drew _ k hk⟩⟩
  ·simp only[Array.size_append,List.size_toArray,size_zeroCells,hzs,hown.1,←Nat.add_mul]
   congr 1
   omega
  ·rw[hxa,←hlen];exact List.take_left
 rcases hown.2 with ⟨rfl,rfl⟩|⟨g,cap,cur,rfl,hbg,hg,hnc,hcm,hcs,htake⟩
 ·have hx:xs= []:=List.eq_nil_of_length_eq_zero (by simpa using hown.1);subst hx;have hr:=run_append_nil_zeros (P:=P) w t tn ty e i z kq kn ht htn hi hz k h0 hsz (by simpa using hm63) (by omega);have hgr:=grown 0 (by omega) (Value.ownBlock (.slice none 0 0));simp only[Nat.zero_add,List.nil_append,Array.empty_append] at hgr ⊢;exact ⟨_,_,hr,hgr.1,hgr.2,.inr rfl⟩
 ·by_cases hroom:n+k≤cap
  ·have hfit:n*i.size+k*i.size≤cur.size:=by rw[hcs,←Nat.add_mul];exact Nat.mul_le_mul_right _ hroom
   have hr:=oO (P:=P) w t tn ty e i z kq kn ht htn hi hz hzs g n cap cur hg k h0 hsz (by omega) (by omega) h1 hroom hfit;refine ⟨_,_,hr,⟨hlen,.inr ⟨g,cap,_,rfl,hbg,setRow_heap w g cur _ e _ hg,hroom,hcm,?_,?_⟩⟩,⟨rfl,rfl,rfl,by simp,fun k _ hk=>setRow_other w g k _ (fun e=>hk (by simp[Value.ownBlock,e]))⟩,.inl rfl⟩
   ·simp only[List.size_toArray,List.length_append,List.length_take,List.length_drop,Array.length_toList,size_zeroCells,hzs];omega
   ·rw[htake,←hlen];exact List.take_left
  ·have holds:∀j u,xs[j]? =some u→w.drew.cell? ((⟨g,0,none⟩:Addr).add j)=some u:=hown.cells (g:=g) rfl
   have hfc:=run_firstCells_some (P:=P) w.drew i.size n ⟨g,0,none⟩ n cap xs hown.1 holds;have hr:=run_append_grow_zeros (P:=P) w t tn ty e i z kq kn ht htn hi hz (some ⟨g,0,none⟩) n cap xs hfc k h0 hsz (by omega) hm63 (by omega) (growslice_fits (by omega) hbytes);have hgr:=grown cap (by omega) (Value.ownBlock (.slice (some ⟨g,0,none⟩) n cap));exact ⟨_,_,hr,hgr.1,hgr.2,.inr rfl⟩
theorem oG {o:Oper} {a:Act} {K:Act→World→Prop} {Q:Exit→Act→World→Prop} (s x:Operand) (t tn:TypeId)
 (ho:o.op= .call {callee:= .builtin .append,args:= #[s,x],argTypes:= #[t,tn]})
 (base:Nat) (e:TypeId) (i:TypeInfo) (z:Value) (size bytes:Nat) (kq kn:IntKind) (ht:P.underlying t=some (.slice e)) (htn:P.underlying tn=some (.int kn)) (hi:P.info? e=some i) (hz:i.zero=some z)
 (hsize:i.size=size) (hby:i.bytes=bytes) (hzs:z.cells.size=size) (hsz:0<size)
 (v:Value) (n:Nat) (xs:List Value) (hs:a.eval s=v) (hown:w.ownsRow base e size v n xs) (k:Nat) (hx:a.eval x= .int kq k) (h0:0<k) (h1:∀u∈(Builtin.zeroCells z.cells k).toList,u.oneCell'=true)
 (h63:n+k≤maxLen) (hbytes:(n+k)*bytes≤140737488355328) (hbase:base≤w.heap.size)
 (h:∀v' w',w'.ownsRow base e size v' (n+k) (xs++(Builtin.zeroCells z.cells k).toList)→w.grownBy w' v.ownBlock→(v'.ownBlock=v.ownBlock∨v'.ownBlock=some w.heap.size)→K (a.put o.dst v') w'):o.wp P a w K Q:=by
 obtain ⟨v',w',hrun,h2,h3,h4⟩:=pU (P:=P) w base t tn o.type e i z size bytes kq kn ht htn hi hz hsize hby hzs hsz v n xs hown k h0 h1 h63 hbytes hbase;unfold Oper.wp execOp;simp only[ho,resolve,invoke,builtin,Sem.run_bind,Sem.run_pure,Result.andThen_ok,List.map_toArray,List.map_cons,List.map_nil,hs,hx,hrun];exact h v' w' h2 h3 h4
end
end
section
open Go.RowKit Go.Shelf
attribute [local go_sem] Oper.semAt_some
section
variable {w w':World} {A:Option Addr} {n c:Nat} {l:List Fl}
theorem J8 (f:Fl) (w:World):Calls Tryz.prog 154 #[.agg #[.bool f.1,.bool f.2.1,.bool f.2.2]] w fun e w'=>e= .returned (.bool f.1)∧Below w.heap.size w w':=by
 have hb:=au.new w 174 #[.bool f.1,.bool f.2.1,.bool f.2.2];have c0:=hb.cell 0;simp at c0;clear hb;go_enter Tryz.func154,Tryz.ntmps154;go_wp2;go_ret;exact ⟨rfl,(Below.refl _ w).alloc (Nat.le_refl _) _⟩
set_option maxHeartbeats 400000 in
theorem Mt (h:lH w A n c l) (hn:n≤100000):
 Calls Tryz.prog 153 #[.slice A n c,.func (.func 154) #[] #[]] w fun e w'=>e= .returned (.bool (l.any (fun f=>f.1)))∧Below w.heap.size w w':=by
 have key:Calls Tryz.prog 196 #[.slice A n c,.func (.func 154) #[] #[]] w fun e w'=>(∃i:Int,e= .returned (.int .i64 i)∧(decide (i≥0))=l.any (fun f=>f.1))∧Below w.heap.size w w':=by
  have hcap:=h.cap;have hmx:=h.mx;have HH:=Lib.hid h;have hlen:=h.len;clear h;go_enter Tryz.func196,Tryz.ntmps196;go_wp2
  go_loopw [8] (fun i wr=>∃k:Nat,k≤n∧i= .int .i64 k∧(l.take k).any (fun f=>f.1)=false∧Below w.heap.size w wr) (fun i _=>n-(intOf i).toNat)
  case atStart=>exact ⟨0,Nat.zero_le _,rfl,by simp,Below.refl _ w⟩
  case round=>
   obtain ⟨k,hk,rfl,hno,hb⟩:=hrel;by_cases hlt:k<n
   ·obtain ⟨g,o,rfl,hg,hc⟩:=(HH.out.below hb).at_ (by omega);obtain ⟨f,hf⟩:∃f,l[k]? =some f:=⟨_,List.getElem?_eq_getElem (by omega)⟩
    obtain ⟨k0,k1,k2⟩:=hc k f hf;have hcl:=J8 f wr;have hst:(l.take (k+1)).any (fun f=>f.1)=f.1:=by rw[List.take_add_one,hf,List.any_append,hno];simp
    have hall:f.1=true→l.any (fun f=>f.1)=true:=fun e=>List.any_eq_true.2 ⟨f,List.mem_of_getElem? hf,e⟩
    have HST:=Lib.hid hst;have oK:=Lib.hid hall;have HB:=Lib.hid hb;have qP:=Lib.hid hcl;obtain ⟨fg,fs,fe⟩:=f;dsimp only at k0 k1 k2 HST oK qP;clear hc hf hno hst hall hb hcl;cases fg with
    |true=>
     go_wp2_with fail;refine qP.out.mono ?_;rintro e1 w1 ⟨rfl,hb1⟩;go_wp2;go_ret;exact ⟨⟨k,rfl,by rw[oK.out trivial];simp⟩,HB.out.trans (hb1.mono HB.out.size)⟩
    |false=>
     go_wp2_with fail;refine qP.out.mono ?_;rintro e1 w1 ⟨rfl,hb1⟩;go_wp2
     go_round
     case rel=>exact ⟨k+1,by omega,by go_num,HST.out,HB.out.trans (hb1.mono HB.out.size)⟩
     case measure=>simp[intOf];omega
   ·have e:l.take k=l:=List.take_of_length_le (by omega);rw[e] at hno;have HN:=Lib.hid hno;have HB:=Lib.hid hb;clear e hno hb;go_wp2;go_ret;exact ⟨⟨-1,rfl,by rw[HN.out];rfl⟩,HB.out⟩
 have HK:=Lib.hid key;have hcap:=h.cap;have hmx:=h.mx;clear key h;go_enter Tryz.func153,Tryz.ntmps153;go_wp2_with fail;refine HK.out.mono ?_;rintro e1 w1 ⟨⟨i,rfl,hi⟩,hb1⟩;have HI:=Lib.hid hi;clear hi;go_wp2;go_ret;exact ⟨by rw[←HI.out];rfl,hb1⟩
end
section
variable {P:Program} {ops:Array Oper} {Q:Exit→Act→World→Prop} {n l:Nat}
theorem rE {id:Nat} {a:Act} {w:World} (S:World→Prop) (L:List Nat) (hm:P.follows .mixedOrders=true) (hd:ops.toList.all lU=true) (hout:¬LetsOut Q)
 (h:dR P .any ops Q S L ops.size (Array.replicate ops.size false) a w.drew):(Code.region id ops true).wpIn (Fence.wide.inRound l) n P Q a w:=
 wpIn_region_any hm (iD hd hout _ _ _ _ (qW _ _ _ _ h))
end
section
variable {P:Program}
theorem aU {id m lr:Nat} {Q:Exit→Act→World→Prop} {a:Act} {w:World} {l:List Oper} (n:Nat) (hm:P.follows .mixedOrders=true) (hd:l.toArray.toList.all lU=true) (hout:¬LetsOut Q) (hB:Region.lexTailB .any l.toArray n=true)
 (h:wpStill P l.toArray {w with drawn:=w.drawn+1} (fun a'=>wpList P l.toArray Q (l.drop n) a' {w with drawn:=w.drawn+1}) (l.take n) a):(Code.region id l.toArray true).wpIn (Fence.wide.inRound lr) m P Q a w:=by
 simp only[Region.lexTailB,Bool.and_eq_true,decide_eq_true_eq] at hB;obtain ⟨⟨⟨⟨hsel,hn⟩,hs⟩,hc⟩,hlex⟩:=hB;have hn':n<l.length:=by simpa using hn
 have htl:(l.take n).length=n:=by simp;omega
 have hdl:(l.drop n).length=l.toArray.size-n:=by simp
 have inv0:HeadInv .any l.toArray n (Array.replicate l.toArray.size false):=
  ⟨by simp,fun j oj _ hl=>(by rw[getD_replicate_false] at hl;cases hl),fun t _ ht=>getD_in (by simpa using ht) (getD_replicate_false _ _)⟩
 have H:=wpAnyL_lex (md:= .any) (g:=l.toArray.size-n) hsel hs hc hn (l.take n) 0 _ a (fun j hj=>by
  have hj':j<n:=by rw[htl] at hj;exact hj
  simp[hj']) (by simpa using htl) inv0 (by rw[htl];exact hlex) h
 refine wpIn_region_any hm (iD hd hout _ _ _ _ ?_);have:=wpAny_of_head (Q':=Q) (g:=l.toArray.size-n) (fun listed a' hL=>by
  have:=wpAny_of_seq (md:= .any) (Q':=Q) (l.drop n) n listed a' {w with drawn:=w.drawn+1} (fun j=>by simp[List.getElem?_drop]) (by rw[hdl];exact hL.1) hL.2
  rwa [hdl] at this) _ _ _ H
 rw[htl,show n+(l.toArray.size-n)=l.toArray.size by omega] at this;exact this
end
theorem tq {W:World} {base size n:Nat} {e:TypeId} {v:Value} {xs:List Value} (h:W.ownsRow base e size v n xs) (hn:0<n):∃g cap,v= .slice (some ⟨g,0,none⟩) n cap∧n≤cap∧cap≤9223372036854775807∧g<W.heap.size:=by
 rcases h.2 with ⟨_,h0⟩|⟨g,cap,cur,rfl,_,hg,h1,h2,_⟩
 ·omega
 ·exact ⟨g,cap,rfl,h1,by unfold maxLen at h2;omega,lt_of_heap hg⟩
theorem vR (s e:Bool) (n:Nat):∀(a:List (List UInt8)) (i:Nat) (p:List UInt8),gL s e n i (a++ [p])=gL s e n i a++qF p (decide (0<i+a.length)||s) (decide (i+a.length+1<n)||e)
 | [],i,p=>by simp[gL]
 |q::r,i,p=>by
  rw[List.cons_append,gL,gL,vR s e n r (i+1) p,List.append_assoc,List.length_cons];rw[show i+1+r.length=i+(r.length+1) by omega]
theorem EK {s e:Bool} {n:Nat} {ps:List (List UInt8)} {k:Nat} {p:List UInt8} (h:ps[k]? =some p):gL s e n 0 (ps.take (k+1))=gL s e n 0 (ps.take k)++qF p (decide (0<k)||s) (decide (k+1<n)||e):=by
 have hk:=(List.getElem?_eq_some_iff.1 h).1;rw[List.take_add_one,h];simp only[Option.toList];rw[vR,List.length_take,Nat.min_eq_left (by omega),Nat.zero_add]
theorem Mv (l:List (Fl × UInt8)) (f:Fl) (b:UInt8) (a:Nat) (x:List Fl × List UInt8):
 Bl (l++ [(f,b)]) a x=if (fJ (Bl l a x).1 (a+l.length)).1=true then Bl l a x else ((Bl l a x).1.set (a+l.length) f,(Bl l a x).2.set (a+l.length) b):=by
 rw[CY];rfl
def Ox (s e:Bool) (off:Nat) (ps:List (List UInt8)) (x0:List Fl × List UInt8) (k:Nat):List Fl × List UInt8:=Bl (gL s e ps.length 0 (ps.take k)) off x0
def zH (s e:Bool) (off:Nat) (ps:List (List UInt8)) (x0:List Fl × List UInt8) (k j:Nat):List Fl × List UInt8:=
 Bl ((qF (ps[k]?.getD []) (decide (0<k)||s) (decide (k+1<ps.length)||e)).take j) (off+ah (ps.take k)) (Ox s e off ps x0 k)
section
variable {s e:Bool} {off:Nat} {ps:List (List UInt8)} {x0:List Fl × List UInt8} {k:Nat}
theorem Mx:zH s e off ps x0 k 0=Ox s e off ps x0 k:=by
 unfold zH;rw[List.take_zero];rfl
theorem My (hk:k<ps.length):zH s e off ps x0 k (ps[k]?.getD []).length=Ox s e off ps x0 (k+1):=by
 have hp:ps[k]? =some ps[k]:=List.getElem?_eq_getElem hk;unfold zH Ox;rw[EK (n:=ps.length) hp,CY,rA,hp,Option.getD_some,List.take_of_length_le (by rw[uV];exact Nat.le_refl _)]
theorem PX (j:Nat):(zH s e off ps x0 k j).1.length=x0.1.length∧(zH s e off ps x0 k j).2.length=x0.2.length:=by
 unfold zH Ox;have h1:=qm (gL s e ps.length 0 (ps.take k)) off x0;have h2:=qm ((qF (ps[k]?.getD []) (decide (0<k)||s) (decide (k+1<ps.length)||e)).take j) (off+ah (ps.take k)) (Bl (gL s e ps.length 0 (ps.take k)) off x0);exact ⟨h2.1.trans h1.1,h2.2.trans h1.2⟩
theorem MC {j:Nat} (hj:j<(ps[k]?.getD []).length):zH s e off ps x0 k (j+1)=
 if (fJ (zH s e off ps x0 k j).1 (off+ah (ps.take k)+j)).1=true then zH s e off ps x0 k j
 else ((zH s e off ps x0 k j).1.set (off+ah (ps.take k)+j) (true,decide (j=0)&&(decide (0<k)||s),decide (j+1=(ps[k]?.getD []).length)&&(decide (k+1<ps.length)||e)),
  (zH s e off ps x0 k j).2.set (off+ah (ps.take k)+j) ((ps[k]?.getD [])[j]?.getD 0)):=by
 unfold zH;generalize ps[k]?.getD []=p at*;have hg:(qF p (decide (0<k)||s) (decide (k+1<ps.length)||e))[j]? =some ((true,decide (j=0)&&(decide (0<k)||s),decide (j+1=p.length)&&(decide (k+1<ps.length)||e)),p[j]?.getD 0):=by
  rw[JZ,List.getElem?_eq_getElem hj];rfl
 rw[List.take_add_one,hg];simp only[Option.toList];rw[Mv,List.length_take,uV,Nat.min_eq_left (by omega)]
end
def RO (b:Nat) (vf vd:Value) (k:Nat) (_:Obj):Prop:=k=b∨vf.ownBlock=some k∨vd.ownBlock=some k
structure oP (w:World) (b:Nat) (vf vd:Value) (xc:Array Value) (sz:Int) (kG ku:Value) (fl:List Fl) (da:List UInt8) (W:World):Prop where
 blk:au W b 165 #[kG,ku,.int .i64 sz]
 fr:W.ownsRow 0 174 3 kG fl.length (uh fl)
 dr:W.ownsRow 0 5 1 ku da.length (bV da)
 bf:∀k,kG.ownBlock=some k→vf.ownBlock=some k∨w.heap.size≤k
 bd:∀k,ku.ownBlock=some k→vd.ownBlock=some k∨w.heap.size≤k
 kp:Kept (RO b vf vd) w W
 bp:au W w.heap.size 161 #[.pointer (some ⟨b,0,none⟩)]
 bx:au W (w.heap.size+1) 148 xc
 hb:b<w.heap.size
section
variable {w W W':World} {b:Nat} {vf vd kG ku:Value} {xc:Array Value} {sz:Int} {fl:List Fl} {da:List UInt8}
theorem oP.below (h:oP w b vf vd xc sz kG ku fl da W) (hb:Below W.heap.size W W'):oP w b vf vd xc sz kG ku fl da W':=
 ⟨h.blk.below hb h.blk.lt,cO h.fr fun k hk=>hb.block k (h.fr.lt k hk).2,cO h.dr fun k hk=>hb.block k (h.dr.lt k hk).2,h.bf,h.bd,h.kp.trans ((Kept.of_below hb).fA fun k o ho hm=>by have:=lt_of_heap ho;omega),h.bp.below hb h.bp.lt,h.bx.below hb h.bx.lt,h.hb⟩
theorem oP.drew (h:oP w b vf vd xc sz kG ku fl da W):oP w b vf vd xc sz kG ku fl da W.drew:=h.below (Below.refl _ W).drew
theorem oP.alloc (h:oP w b vf vd xc sz kG ku fl da W) (o:Obj):oP w b vf vd xc sz kG ku fl da (W.alloc o):=h.below ((Below.refl _ W).alloc (Nat.le_refl _) o)
theorem jv {base size n g:Nat} {e t:TypeId} {v:Value} {xs:List Value} {cs:Array Value} (h:W.ownsRow base e size v n xs) (hg:au W g t cs) (hne:e≠t):some g≠v.ownBlock:=fun e'=>aI h hg hne e'.symm
theorem qo {b1 b2 s1 s2 n1 n2:Nat} {e1 e2:TypeId} {v1 v2:Value} {x1 x2:List Value} (h1:W.ownsRow b1 e1 s1 v1 n1 x1) (h2:W.ownsRow b2 e2 s2 v2 n2 x2) (hne:e1≠e2):v1.ownBlock=none∨v1.ownBlock≠v2.ownBlock:=by
 cases hv:v1.ownBlock with
 |none=>exact .inl rfl
 |some k=>
  refine .inr fun e=> ?_
  obtain ⟨o1,a1,⟨c1,f1,rfl⟩,_⟩:=bT h1 hv;obtain ⟨o2,a2,⟨c2,f2,e2⟩,_⟩:=bT h2 e.symm;rw[a1] at a2;cases a2;cases e2;exact hne rfl
theorem eZ {base size n g i:Nat} {e t:TypeId} {v:Value} {xs:List Value} {cs:Array Value} (h:W.ownsRow base e size v n xs) (hb:au W g t cs) (hne:e≠t) (u:Value):(W.setCell ⟨g,i,none⟩ u).ownsRow base e size v n xs:=
 cO h fun k hk=>Below.heap_setCell W ⟨g,i,none⟩ u k (fun ek=>by
  have e2:k=g:=ek;subst e2;exact aI h hb hne hk)
theorem oP.flags (h:oP w b vf vd xc sz kG ku fl da W) {v2:Value} {fl2:List Fl} (hr:W'.ownsRow 0 174 3 v2 fl2.length (uh fl2)) (hg:W.grownBy W' kG.ownBlock) (hv:v2.ownBlock=kG.ownBlock∨v2.ownBlock=some W.heap.size):
 oP w b vf vd xc sz v2 ku fl2 da (W'.setCell ⟨b,0,none⟩ v2):=by
 have hbW:=h.blk.grown hg (jv h.fr h.blk (by decide));have hsz:=h.kp.size;have hk2:Kept (RO b vf vd) w W':=h.kp.grown hg fun k e o ho=>by
  rcases h.bf k e with e2|e2
  ·exact .inr (.inl e2)
  ·have:=lt_of_heap ho;omega
 refine ⟨by simpa using hbW.av 0 v2,?_,?_,fun k e=> ?_,h.bd,hk2.setCell (p:=⟨b,0,none⟩) (fun _ _=> .inl rfl) _,?_,?_,h.hb⟩
 ·exact eZ (i:=0) hr hbW (by decide) _
 ·exact aJ (i:=0) (h.dr.kept hg (qo h.dr h.fr (by decide))) hbW (by decide) _
 ·rcases hv with e2|e2
  ·exact h.bf k (e2 ▸ e)
  ·rw[e2] at e;cases e;exact .inr hsz
 ·exact (h.bp.grown hg (jv h.fr h.bp (by decide))).far (by have:=h.hb;simp;omega) _
 ·exact (h.bx.grown hg (jv h.fr h.bx (by decide))).far (by have:=h.hb;simp;omega) _
theorem oP.data (h:oP w b vf vd xc sz kG ku fl da W) {v2:Value} {da2:List UInt8} (hr:W'.ownsRow 0 5 1 v2 da2.length (bV da2)) (hg:W.grownBy W' ku.ownBlock) (hv:v2.ownBlock=ku.ownBlock∨v2.ownBlock=some W.heap.size):
 oP w b vf vd xc sz kG v2 fl da2 (W'.setCell ⟨b,1,none⟩ v2):=by
 have hbW:=h.blk.grown hg (jv h.dr h.blk (by decide));have hsz:=h.kp.size;have hk2:Kept (RO b vf vd) w W':=h.kp.grown hg fun k e o ho=>by
  rcases h.bd k e with e2|e2
  ·exact .inr (.inr e2)
  ·have:=lt_of_heap ho;omega
 refine ⟨by simpa using hbW.av 1 v2,?_,?_,h.bf,fun k e=> ?_,hk2.setCell (p:=⟨b,1,none⟩) (fun _ _=> .inl rfl) _,?_,?_,h.hb⟩
 ·exact eZ (i:=1) (h.fr.kept hg (qo h.fr h.dr (by decide))) hbW (by decide) _
 ·exact aJ (i:=1) hr hbW (by decide) _
 ·rcases hv with e2|e2
  ·exact h.bd k (e2 ▸ e)
  ·rw[e2] at e;cases e;exact .inr hsz
 ·exact (h.bp.grown hg (jv h.dr h.bp (by decide))).far (by have:=h.hb;simp;omega) _
 ·exact (h.bx.grown hg (jv h.dr h.bx (by decide))).far (by have:=h.hb;simp;omega) _
end
section
variable {w W W':World} {b:Nat} {vf vd kG ku:Value} {xc:Array Value} {sz:Int} {fl:List Fl} {da:List UInt8}
theorem yF {base size n:Nat} {e:TypeId} {v:Value} {xs:List Value} {row:Option Nat} (h:W.ownsRow base e size v n xs) (hg:W.grownBy W' row) (hr:∀r,row=some r→∃o:Obj,W.heap[r]? =some o∧o.isCells=false):W'.ownsRow base e size v n xs:=by
 refine h.kept hg ?_;cases hv:v.ownBlock with
 |none=>exact .inl rfl
 |some k=>
  refine .inr fun e2=> ?_
  obtain ⟨o,ho,hc⟩:=hr k e2.symm;obtain ⟨o2,ho2,⟨c1,f1,rfl⟩,_⟩:=bT h hv;rw[ho2] at ho;cases ho;cases hc
theorem oP.quiet (h:oP w b vf vd xc sz kG ku fl da W) {row:Option Nat} (hg:W.grownBy W' row) (hr:∀r,row=some r→w.heap.size≤r∧∃o:Obj,W.heap[r]? =some o∧o.isCells=false):oP w b vf vd xc sz kG ku fl da W':=
 have hr':=fun r e=>(hr r e).2
 ⟨eu h.blk hg hr',yF h.fr hg hr',yF h.dr hg hr',h.bf,h.bd,h.kp.grown hg (fun k e o ho=>by have:=lt_of_heap ho;have:=(hr k e).1;omega),eu h.bp hg hr',eu h.bx hg hr',h.hb⟩
theorem oP.TX {gd n cd at_:Nat} (h:oP w b vf vd xc sz kG (.slice (some ⟨gd,0,none⟩) n cd) fl da W) (hn:da.length=n) (x:UInt8):oP w b vf vd xc sz kG (.slice (some ⟨gd,0,none⟩) n cd) fl (da.set at_ x) (W.setCell ⟨gd,at_,none⟩ (bv x)):=by
 subst hn;have hg:=aM W gd at_ (bv x);have hd:=h.dr;have hr:=(hd.stored at_ (bv x)).1;have hne:∀{g:Nat} {t:TypeId} {cs:Array Value},au W g t cs→5≠t→some g≠some gd:=fun hb hne=>jv hd hb hne
 refine ⟨h.blk.grown hg (hne h.blk (by decide)),h.fr.kept hg (qo h.fr hd (by decide)),?_,h.bf,h.bd,h.kp.grown hg (fun k e o ho=> ?_),h.bp.grown hg (hne h.bp (by decide)),h.bx.grown hg (hne h.bx (by decide)),h.hb⟩
 ·have e:bV (da.set at_ x)=(bV da).set at_ (bv x):=by simp[bV,List.map_set]
  rw[e,List.length_set];exact hr
 ·cases e;rcases h.bd gd rfl with e2|e2
  ·exact .inr (.inr e2)
  ·have:=lt_of_heap ho;omega
theorem oP.yG {gf n cf at_:Nat} (h:oP w b vf vd xc sz (.slice (some ⟨gf,0,none⟩) n cf) ku fl da W) (hn:fl.length=n) (hat:at_<n) (f:Fl):
 oP w b vf vd xc sz (.slice (some ⟨gf,0,none⟩) n cf) ku (fl.set at_ f) da (((W.setCell ⟨gf,at_*3,none⟩ (.bool f.1)).setCell ⟨gf,at_*3+1,none⟩ (.bool f.2.1)).setCell ⟨gf,at_*3+2,none⟩ (.bool f.2.2)):=by
 subst hn;have hd:=h.fr;have hr1:=(hd.stored (at_*3) (.bool f.1)).1;have hr2:=(hr1.stored (at_*3+1) (.bool f.2.1)).1;have hr3:=(hr2.stored (at_*3+2) (.bool f.2.2)).1;have hg:W.grownBy (((W.setCell ⟨gf,at_*3,none⟩ (.bool f.1)).setCell ⟨gf,at_*3+1,none⟩ (.bool f.2.1)).setCell ⟨gf,at_*3+2,none⟩ (.bool f.2.2)) (some gf):=
  ((aM W gf _ _).trans (aM _ gf _ _)).trans (aM _ gf _ _)
 have hne:∀{g:Nat} {t:TypeId} {cs:Array Value},au W g t cs→174≠t→some g≠some gf:=fun hb hne=>jv hd hb hne
 refine ⟨h.blk.grown hg (hne h.blk (by decide)),?_,h.dr.kept hg (qo h.dr hd (by decide)),h.bf,h.bd,h.kp.grown hg (fun k e o ho=> ?_),h.bp.grown hg (hne h.bp (by decide)),h.bx.grown hg (hne h.bx (by decide)),h.hb⟩
 ·rw[Jc _ _ _ hat] at hr3;rw[List.length_set];exact hr3
 ·cases e;rcases h.bf gf rfl with e2|e2
  ·exact .inr (.inl e2)
  ·have:=lt_of_heap ho;omega
end
section
variable {w W W':World} {b:Nat} {vf vd kG ku:Value} {xc:Array Value} {sz:Int} {fl:List Fl} {da:List UInt8}
theorem oP.XP (h:oP w b vf vd xc sz kG ku fl da W) {D:Nat} {o:Obj} (o':Obj) (hD:W.heap[D]? =some o) (hc:o.isCells=false) (hDl:w.heap.size≤D):oP w b vf vd xc sz kG ku fl da (W.putObj D o'):=
 h.quiet (grownBy_putObj' W D o') (fun r e=>by cases e;exact ⟨hDl,o,hD,hc⟩)
theorem oP.acg (h:oP w b vf vd xc sz kG ku fl da W) (z:Int):oP w b vf vd xc z kG ku fl da (W.setCell ⟨b,2,none⟩ (.int .i64 z)):=
 ⟨by simpa using h.blk.av 2 (.int .i64 z),eZ h.fr h.blk (by decide) _,eZ h.dr h.blk (by decide) _,h.bf,h.bd,h.kp.setCell (p:=⟨b,2,none⟩) (fun _ _=> .inl rfl) _,h.bp.far (by have:=h.hb;simp;omega) _,h.bx.far (by have:=h.hb;simp;omega) _,h.hb⟩
end
def PY (b:Nat) (vf vd:Value) (bi Z:Nat) (j:Nat) (_:Obj):Prop:=j=b∨vf.ownBlock=some j∨vd.ownBlock=some j∨j=bi∨Z≤j
structure TkI (w:World) (b:Nat) (vf vd:Value) (xc:Array Value) (sz:Int) (DW DX:Value) (s e:Bool) (off:Nat) (ps:List (List UInt8)) (x0:List Fl × List UInt8) (bi:Nat) (w5:World) (k:Nat) (W:World):Prop where
 t:oP w b vf vd xc sz DW DX (Ox s e off ps x0 k).1 (Ox s e off ps x0 k).2 W
 di:au W bi 3 #[.int .i64 k]
 kp:Kept (PY b DW DX bi w5.heap.size) w5 W
theorem PZ (w:World) (b:Nat) (vf vd:Value) (xc:Array Value) (sz:Int) (DW DX:Value) (s e:Bool) (off:Nat) (ps:List (List UInt8)) (x0:List Fl × List UInt8) (bi:Nat) (w5:World) (hw:w.heap.size≤w5.heap.size):
 OwnFrom w5.heap.size (TkI w b vf vd xc sz DW DX s e off ps x0 bi w5):=fun k X Y row hs hg hr=>by
 have hr':∀r,row=some r→∃o:Obj,X.heap[r]? =some o∧o.isCells=false:=fun r e=>(hr r e).2
 exact ⟨hs.t.quiet hg fun r e=>⟨by have:=(hr r e).1;omega,(hr r e).2⟩,eu hs.di hg hr',hs.kp.trans ((Kept.refl _ X).grown hg (fun j e _ _=> .inr (.inr (.inr (.inr (hr j e).1)))))⟩
structure EL (w:World) (b:Nat) (vf vd:Value) (xc:Array Value) (sz:Int) (DW DX:Value) (fl:List Fl) (da:List UInt8) (bi:Nat) (w5 W0:World) (k:Nat) (W:World):Prop where
 t:oP w b vf vd xc sz DW DX fl da W
 di:au W bi 3 #[.int .i64 k]
 kp:Kept (PY b DW DX bi w5.heap.size) w5 W
 k2:Kept (PY b DW DX bi w5.heap.size) W0 W
 kf:KeepsFrom w5.heap.size W0 W
section
variable {w W W' w5 W0:World} {b:Nat} {vf vd kG ku:Value} {xc:Array Value} {sz:Int} {fl:List Fl} {da:List UInt8} {bi k:Nat}
theorem EL.below (h:EL w b vf vd xc sz kG ku fl da bi w5 W0 k W) (hb:Below W.heap.size W W') (_hz:w5.heap.size≤W.heap.size):EL w b vf vd xc sz kG ku fl da bi w5 W0 k W':=
 have hk:Kept (PY b kG ku bi w5.heap.size) W W':=(Kept.of_below hb).fA fun k o ho hm=>by have:=lt_of_heap ho;omega
 ⟨h.t.below hb,h.di.below hb h.di.lt,h.kp.trans hk,h.k2.trans hk,h.kf.trans ⟨hb.size,fun k o _ ho _=>(hb.block k (lt_of_heap ho)).trans ho⟩⟩
theorem EL.drew (h:EL w b vf vd xc sz kG ku fl da bi w5 W0 k W) (hz:w5.heap.size≤W.heap.size):EL w b vf vd xc sz kG ku fl da bi w5 W0 k W.drew:=h.below (Below.refl _ W).drew hz
theorem EL.TX {gd n cd at_:Nat} (h:EL w b vf vd xc sz kG (.slice (some ⟨gd,0,none⟩) n cd) fl da bi w5 W0 k W) (hn:da.length=n) (x:UInt8):EL w b vf vd xc sz kG (.slice (some ⟨gd,0,none⟩) n cd) fl (da.set at_ x) bi w5 W0 k (W.setCell ⟨gd,at_,none⟩ (bv x)):=by
 have hk:Kept (PY b kG (.slice (some ⟨gd,0,none⟩) n cd) bi w5.heap.size) W (W.setCell ⟨gd,at_,none⟩ (bv x)):=(Kept.refl _ W).setCell (p:=⟨gd,at_,none⟩) (fun _ _=> .inr (.inr (.inl rfl))) _;have hd:=h.t.dr;rw[hn] at hd;exact ⟨h.t.TX hn x,h.di.grown (aM W gd at_ (bv x)) (jv hd h.di (by decide)),h.kp.trans hk,h.k2.trans hk,h.kf.trans ((KeepsOthers.setCell _ _ _).from _)⟩
theorem EL.yG {gf n cf at_:Nat} (h:EL w b vf vd xc sz (.slice (some ⟨gf,0,none⟩) n cf) ku fl da bi w5 W0 k W) (hn:fl.length=n) (hat:at_<n) (f:Fl):
 EL w b vf vd xc sz (.slice (some ⟨gf,0,none⟩) n cf) ku (fl.set at_ f) da bi w5 W0 k (((W.setCell ⟨gf,at_*3,none⟩ (.bool f.1)).setCell ⟨gf,at_*3+1,none⟩ (.bool f.2.1)).setCell ⟨gf,at_*3+2,none⟩ (.bool f.2.2)):=by
 have hM:∀o:Obj,PY b (.slice (some ⟨gf,0,none⟩) n cf) ku bi w5.heap.size gf o:=fun _=> .inr (.inl rfl)
 have hk:Kept (PY b (.slice (some ⟨gf,0,none⟩) n cf) ku bi w5.heap.size) W (((W.setCell ⟨gf,at_*3,none⟩ (.bool f.1)).setCell ⟨gf,at_*3+1,none⟩ (.bool f.2.1)).setCell ⟨gf,at_*3+2,none⟩ (.bool f.2.2)):=
  (((Kept.refl _ W).setCell (p:=⟨gf,_,none⟩) (fun _ _=>hM _) _).setCell (p:=⟨gf,_,none⟩) (fun _ _=>hM _) _).setCell (p:=⟨gf,_,none⟩) (fun _ _=>hM _) _
 have hd:=h.t.fr;rw[hn] at hd;have hg:W.grownBy (((W.setCell ⟨gf,at_*3,none⟩ (.bool f.1)).setCell ⟨gf,at_*3+1,none⟩ (.bool f.2.1)).setCell ⟨gf,at_*3+2,none⟩ (.bool f.2.2)) (some gf):=
  ((aM W gf _ _).trans (aM _ gf _ _)).trans (aM _ gf _ _)
 exact ⟨h.t.yG hn hat f,h.di.grown hg (jv hd h.di (by decide)),h.kp.trans hk,h.k2.trans hk,h.kf.trans ((((KeepsOthers.setCell _ _ _).from _).trans ((KeepsOthers.setCell _ _ _).from _)).trans ((KeepsOthers.setCell _ _ _).from _))⟩
theorem EL.next (h:EL w b vf vd xc sz kG ku fl da bi w5 W0 k W) (hbi:b≠bi) (h1:bi≠w.heap.size) (h2:bi≠w.heap.size+1) (hw:w.heap.size≤bi):EL w b vf vd xc sz kG ku fl da bi w5 W0 (k+1) (W.setCell ⟨bi,0,none⟩ (.int .i64 ((k+1:Nat):Int))):=by
 have hk:Kept (PY b kG ku bi w5.heap.size) W (W.setCell ⟨bi,0,none⟩ (.int .i64 ((k+1:Nat):Int))):=(Kept.refl _ W).setCell (p:=⟨bi,0,none⟩) (fun _ _=> .inr (.inr (.inr (.inl rfl)))) _;refine ⟨⟨h.t.blk.far (by simpa using hbi) _,eZ h.t.fr h.di (by decide) _,eZ h.t.dr h.di (by decide) _,h.t.bf,h.t.bd,h.t.kp.setCell (p:=⟨bi,0,none⟩) (fun o ho=>by have:=lt_of_heap ho;simp at this;omega) _,h.t.bp.far (by simpa using fun e=>h1 e.symm) _,h.t.bx.far (by simpa using fun e=>h2 e.symm) _,h.t.hb⟩,?_,h.kp.trans hk,h.k2.trans hk,h.kf.trans ((KeepsOthers.setCell _ _ _).from _)⟩;simpa using h.di.av 0 (.int .i64 ((k+1:Nat):Int))
end
theorem EM (k:Nat):(Builtin.zeroCells #[.bool false,.bool false,.bool false] k).toList=uh (List.replicate k RN):=by
 apply List.ext_getElem?;intro j;have hl:(uh (List.replicate k RN)).length=k*3:=by rw[GZ,List.length_replicate]
 rcases Nat.lt_or_ge j (k*3) with hj|hj
 ·have hr:(List.replicate k RN)[j/3]? =some RN:=by rw[List.getElem?_replicate,if_pos (by omega)]
  obtain ⟨g1,g2,g3⟩:=wU _ _ _ hr;have hm:j%3=0∨j%3=1∨j%3=2:=by omega
  have he:(Builtin.zeroCells #[.bool false,.bool false,.bool false] k).toList[j]? =some (.bool false):=by
   simp only[Builtin.zeroCells,Array.getElem?_toList,Array.getElem?_map];rw[Array.getElem?_eq_getElem (by simpa using hj)];simp only[Array.getElem_range,Option.map_some,List.size_toArray,List.length_cons,List.length_nil];rcases hm with h|h|h<;>simp[h]
  rw[he];rcases hm with h|h|h
  ·rw[show j=j/3*3 by omega,g1];rfl
  ·rw[show j=j/3*3+1 by omega,g2];rfl
  ·rw[show j=j/3*3+2 by omega,g3];rfl
 ·rw[List.getElem?_eq_none (by rw[Array.length_toList,size_zeroCells];simpa using hj),List.getElem?_eq_none (by omega)]
theorem EN (k:Nat):(Builtin.zeroCells #[.int .u8 0] k).toList=bV (List.replicate k 0):=by
 apply List.ext_getElem?;intro j;rcases Nat.lt_or_ge j k with hj|hj
 ·simp only[Builtin.zeroCells,Array.getElem?_toList,Array.getElem?_map];rw[Array.getElem?_eq_getElem (by simpa using hj)];simp[bV,hj,bv,Nat.mod_one]
 ·rw[List.getElem?_eq_none (by rw[Array.length_toList,size_zeroCells];simpa using hj),List.getElem?_eq_none (by simpa[bV] using hj)]
theorem P4:(Tryz.prog.info? 174).map (fun i=>(i.zero,i.size,i.bytes))=some (some (.agg #[.bool false,.bool false,.bool false]),3,3):=by kernel_rfl
theorem ME:∃i,Tryz.prog.info? 174=some i∧i.zero=some (.agg #[.bool false,.bool false,.bool false])∧i.size=3∧i.bytes=3:=by
 have h:=P4;cases hi:Tryz.prog.info? 174 with
 |none=>rw[hi] at h;cases h
 |some i=>
  rw[hi] at h;simp only[Option.map_some,Option.some.injEq,Prod.mk.injEq] at h;exact ⟨i,rfl,h.1,h.2.1,h.2.2⟩
theorem MF:Tryz.prog.underlying 163=some (.slice 174):=by kernel_rfl
end
section
open Go.RowKit Go.Shelf
attribute [local go_sem] Oper.semAt_some
def wV (l:List (Nat × Nat)) (k:Nat):Array Value:= #[.int .i64 ((l[k]?.getD (0,0)).1:Nat),.int .i64 ((l[k]?.getD (0,0)).2:Nat)]
def jw (l:List Fl) (i fr k:Nat):Prop:=∃pre,eO l 0 0=pre++eO (l.drop i) i fr∧pre.length=k
theorem jw.start (l:List Fl):jw l 0 0 0:=⟨[],rfl,rfl⟩
theorem drop_cons {l:List Fl} {i:Nat} (h:i<l.length):l.drop i=fJ l i::l.drop (i+1):=by
 rw[List.drop_eq_getElem_cons h];unfold fJ;rw[List.getElem?_eq_getElem h];rfl
theorem jw.miss {l:List Fl} {i fr k:Nat} (h:jw l i fr k) (hi:i<l.length) (hf:(fJ l i).1=false):jw l (i+1) fr k:=by
 obtain ⟨pre,e,hk⟩:=h;rw[drop_cons hi,eO,if_pos hf] at e;exact ⟨pre,e,hk⟩
theorem jw.pass {l:List Fl} {i fr k:Nat} (h:jw l i fr k) (hi:i<l.length) (hf:(fJ l i).1=true) (hfr:¬fr<i):jw l (i+1) (i+1) k:=by
 obtain ⟨pre,e,hk⟩:=h;rw[drop_cons hi,eO,if_neg (by rw[hf];simp),if_neg hfr] at e;exact ⟨pre,e,hk⟩
theorem jw.give {l:List Fl} {i fr k:Nat} (h:jw l i fr k) (hi:i<l.length) (hf:(fJ l i).1=true) (hfr:fr<i):jw l (i+1) (i+1) (k+1)∧(eO l 0 0)[k]? =some (fr,i-1):=by
 obtain ⟨pre,e,hk⟩:=h;rw[drop_cons hi,eO,if_neg (by rw[hf];simp),if_pos hfr] at e;refine ⟨⟨pre++ [(fr,i-1)],by rw[e];simp,by simp[hk]⟩,?_⟩;rw[e,List.getElem?_append_right (by omega),hk,Nat.sub_self];rfl
theorem jw.last {l:List Fl} {fr k:Nat} (h:jw l l.length fr k) (hfr:fr<l.length):(eO l 0 0)[k]? =some (fr,l.length-1)∧(eO l 0 0).length=k+1:=by
 obtain ⟨pre,e,hk⟩:=h;rw[List.drop_length,eO,if_pos hfr] at e;constructor
 ·rw[e,List.getElem?_append_right (by omega),hk,Nat.sub_self];rfl
 ·rw[e,List.length_append,hk];rfl
theorem jw.none {l:List Fl} {fr k:Nat} (h:jw l l.length fr k) (hfr:¬fr<l.length):(eO l 0 0).length=k:=by
 obtain ⟨pre,e,hk⟩:=h;rw[List.drop_length,eO,if_neg hfr,List.append_nil] at e;rw[e,hk]
theorem yH {L:List (Nat × Nat)} {k a b:Nat} (h:L[k]? =some (a,b)):wV L k= #[.int .i64 (a:Nat),.int .i64 (b:Nat)]∧k<L.length:=by
 unfold wV;rw[h];exact ⟨rfl,(List.getElem?_eq_some_iff.1 h).1⟩
set_option maxRecDepth 100000 in
set_option maxHeartbeats 2000000 in
theorem J9 (n:Nat) (hn:1≤n) (gv b:Nat) (A:Option Addr) (m c:Nat) (l:List Fl) (hm:m≤100000) (hlm:l.length=m) (Q:Nat→Obj→Prop) (w:World)
 (hg:au w gv 161 #[.pointer (some ⟨b,0,none⟩)]) (_hbl:b<w.heap.size) (hb:∀W,Below w.heap.size w W→∀X,Kept Q W X→X.cell? ⟨b,0,none⟩=some (.slice A m c)∧lH X A m c l) (hQ:¬Q gv (.cells #[.pointer (some ⟨b,0,none⟩)] 161 (0,0))):
 GQ Fence.wide n Tryz.prog 201 #[.pointer (some ⟨gv,0,none⟩)] (wV (eO l 0 0)) (eO l 0 0).length (Kept Q) w:=fun lb J W hW _ hY h0=>by
 have hg':=hg.below hW hg.lt;have HB:=Lib.hid (hb W hW);have HY:=Lib.hid hY;clear hY hb;refine callsIn_of_wp Tryz.func201 rfl trivial ?_ rfl;simp only[Tryz.ntmps201,List.size_toArray,List.length_cons,List.length_nil,Nat.reduceAdd,Nat.reduceSub,Array.replicate_succ,Array.replicate_zero,List.push_toArray,List.append_toArray,List.nil_append,List.cons_append];have hcw:=hg'.cell 0;simp at hcw;obtain ⟨hc0,TY⟩:=HB.out W (Kept.refl _ _);refine jY ?_
 gi_wp2
 refine wpIn_label ?_
 gi_wp2
 gi_loopw [3,11] (fun s3 i wr=>∃i' fr k:Nat,i'≤m+1∧i= .int .i64 i'∧s3= .int .i64 fr∧fr≤i'∧((i'≤m∧jw l i' fr k)∨(i'=m+1∧k=(eO l 0 0).length))∧J k wr∧Kept Q W wr) (fun _ i _=>m+1-(intOf i).toNat)
 case atStart=>exact ⟨0,0,0,Nat.zero_le _,by simp,by simp,Nat.le_refl _,.inl ⟨Nat.zero_le _,jw.start l⟩,h0,Kept.refl _ _⟩
 case round=>
  obtain ⟨i',fr,k,hi1,rfl,rfl,hfr,hat,hJs,hnx⟩:=hrel;clear hc0 TY;obtain ⟨hc0,TY⟩:=HB.out wr hnx;have hgr:=hg'.kept hnx hQ;have hcg:=hgr.cell 0;simp at hcg;rcases Nat.lt_trichotomy i' m with hlt|heq|hgt
  ·have wG:jw l i' fr k:=by rcases hat with h|h;exact h.2;omega
   have hhas:Calls Tryz.prog 156 #[.slice A m c,.int .i64 (i':Nat),.int .i64 0] wr fun e w'=>e= .returned (.bool (fJ l i').1)∧wr=w':=yD TY i' (by omega) 0 (by omega)
   clear hat;cases hf:(fJ l i').1 with
   |false=>
    rw[hf] at hhas;have Ag:=Lib.hid hhas;have HF:=Lib.hid hf;have HAT:=Lib.hid wG;clear hhas hf wG
    gi_wp2_with (refine ⟨trivial,?_⟩;refine ((callsIn_wide (n:=n-1)).2 Ag.out).mono ?_;rintro e1 w1 ⟨rfl,rfl⟩)
    exact ⟨⟨i'+1,fr,k,by omega,by go_num,rfl,by omega,.inl ⟨by omega,HAT.out.miss (by omega) HF.out⟩,hJs,hnx⟩,by simp[intOf]<;>omega⟩
   |true=>
    rw[hf] at hhas;have Ag:=Lib.hid hhas;by_cases hfi:fr<i'
    ·obtain ⟨h5,h6⟩:=wG.give (by omega) hf hfi;obtain ⟨h7,h8⟩:=yH h6;have IX:=HY.out k wr h8 hJs;rw[h7,show ((i'-1:Nat):Int)=(i':Int)-1 by omega] at IX;obtain ⟨fn,tmps,assign,body,hy,hR⟩:=IX;have H5:=Lib.hid h5;clear hhas hf wG h5 h6 h7 h8
     gi_wp2_with (refine ⟨trivial,?_⟩;refine ((callsIn_wide (n:=n-1)).2 Ag.out).mono ?_;rintro e1 w1 ⟨rfl,rfl⟩)
     refine hR.mono ?_;rintro e W3 ⟨rfl,hJ3,hk3⟩
     gi_wp2_with fail
     exact ⟨⟨i'+1,i'+1,k+1,by omega,by go_num,by go_num,Nat.le_refl _,.inl ⟨by omega,H5.out⟩,hJ3,hnx.trans hk3⟩,by simp[intOf]<;>omega⟩
    ·have h5:=wG.pass (by omega) hf hfi;have H5:=Lib.hid h5;clear hhas hf wG h5
     gi_wp2_with (refine ⟨trivial,?_⟩;refine ((callsIn_wide (n:=n-1)).2 Ag.out).mono ?_;rintro e1 w1 ⟨rfl,rfl⟩)
     refine ⟨fun f h=>(by cases h),?_⟩
     gi_wp2_with fail
     exact ⟨⟨i'+1,i'+1,k,by omega,by go_num,by go_num,Nat.le_refl _,.inl ⟨by omega,H5.out⟩,hJs,hnx⟩,by simp[intOf]<;>omega⟩
  ·subst heq;have wG:jw l i' fr k:=by rcases hat with h|h;exact h.2;omega
   clear hat;rw[←hlm] at wG;by_cases hfi:fr<i'
   ·obtain ⟨h5,h6⟩:=wG.last (by omega);obtain ⟨h7,h8⟩:=yH h5;have IX:=HY.out k wr h8 hJs;rw[h7,show ((l.length-1:Nat):Int)=(i':Int)-1 by omega] at IX;obtain ⟨fn,tmps,assign,body,hy,hR⟩:=IX;have H6:=Lib.hid h6;clear wG h5 h6 h7 h8
    gi_wp2_with fail
    refine ⟨trivial,?_⟩
    gi_wp2_with fail
    refine hR.mono ?_;rintro e W3 ⟨rfl,hJ3,hk3⟩
    gi_wp2_with fail
    exact ⟨⟨i'+1,i'+1,k+1,by omega,by go_num,by go_num,Nat.le_refl _,.inr ⟨rfl,H6.out.symm⟩,hJ3,hnx.trans hk3⟩,by simp[intOf]<;>omega⟩
   ·have h6:=wG.none (by omega);have H6:=Lib.hid h6;clear wG h6
    gi_wp2_with fail
    refine ⟨trivial,?_⟩
    gi_wp2_with fail
    refine ⟨fun f h=>(by cases h),?_⟩
    gi_wp2_with fail
    exact ⟨⟨i'+1,i'+1,k,by omega,by go_num,by go_num,Nat.le_refl _,.inr ⟨rfl,H6.out.symm⟩,hJs,hnx⟩,by simp[intOf]<;>omega⟩
  ·have e:i'=m+1:=by omega
   have ek:k=(eO l 0 0).length:=by rcases hat with h|h;omega;exact h.2
   subst e;have Gr:J (eO l 0 0).length wr:=by rw[←ek];exact hJs
   clear ek hJs hat
   gi_wp2
   rw[Exit.noGoto_normal]
   go_end0
   exact ⟨⟨_,rfl⟩,Gr⟩
end
section
open Go.RowKit Go.Shelf
attribute [local go_sem] Oper.semAt_some
theorem iO {fn:Func} {p:Tmp} {ty:TypeId} (h:fn.results= #[.cell p ty]) (tmps:Array Value) (P:Program) (w:World):
 (results fn tmps).run P w=((asAddr (tmps.getD p undef)).run P w).andThen fun a w₁=>(loadVar ty a).run P w₁:=by
 simp only[results,h];simp[Sem.run_bind,Result.andThen]
theorem bAl {w w':World} (h:Below w.heap.size w w') (o:Obj):Below w.heap.size w (w'.alloc o):=h.alloc h.size o
theorem T6 {w w':World} (h:Below w.heap.size w w') (i:Nat) (u:Value):Below w.heap.size w (w'.setCell ⟨w.heap.size,i,none⟩ u):=h.setCell (p:=⟨w.heap.size,i,none⟩) (Nat.le_refl _) u
def Oy (st:Sd):Array Value:=
 #[.int .i64 (st.first:Nat),.int .i64 (bJ st:Nat),.int .i64 (st.dD:Nat),.int .i64 (st.bytes:Nat),.int .i64 (if st.wait=true then ((st.polled:Nat):Int) else 0),.bool st.wait,.int .i64 (if st.wait=true then st.fE else 0),.bool st.dW,.int .i64 (st.done:Nat),.bool st.failed]
section
variable {D F:Nat→Prop} {g:Nat} {c:Cf} {st:Sd} {vq vo:Value} {vs os:List Value} {w:World}
set_option maxRecDepth 10000 in
set_option maxHeartbeats 1000000 in
theorem Hg (h:dS w D F g c st vq vs vo os) (ht:1≤c.timer) (h1:st.first<1024) (h2:st.out.length≤1000000):
 Calls Tryz.prog 61 #[.pointer (some ⟨g,0,none⟩)] w fun e w'=>e= .returned (.agg (Oy st))∧Below w.heap.size w w':=by
 have z:Array Value:= #[.int .i64 0,.int .i64 0,.int .i64 0,.int .i64 0,.int .i64 0,.bool false,.int .i64 0,.bool false,.int .i64 0,.bool false];have HZ:=Lib.hid (au.new w 65 #[.int .i64 0,.int .i64 0,.int .i64 0,.int .i64 0,.int .i64 0,.bool false,.int .i64 0,.bool false,.int .i64 0,.bool false]);have HB:=Lib.hid ((Below.refl w.heap.size w).alloc (Nat.le_refl _) (.cells #[.int .i64 0,.int .i64 0,.int .i64 0,.int .i64 0,.int .i64 0,.bool false,.int .i64 0,.bool false,.int .i64 0,.bool false] 65));have HH:=Lib.hid (h.below HB.out);clear h z;go_enter Tryz.func61,Tryz.ntmps61;go_wp2_with fail;generalize w.alloc (.cells #[.int .i64 0,.int .i64 0,.int .i64 0,.int .i64 0,.int .i64 0,.bool false,.int .i64 0,.bool false,.int .i64 0,.bool false] 65)=w0 at*;refine (iV HH.out ht).mono ?_;obtain ⟨r,hr⟩:∃r:Int,(if st.failed=true then 8 else 0)=r:=⟨_,rfl⟩
 have dr:(r==1)=false:=by rw[←hr];cases st.failed<;>rfl
 simp only[hr];clear hr;rintro e1 w1 ⟨rfl,rfl⟩;go_wp2_with fail;have y9:=HH.out.blk.cell 11;have y13:=HH.out.blk.cell 13;have Bt:=HH.out.blk.cell 14;have vS:=HH.out.blk.cell 16;have Da:=HH.out.blk.cell 18;have y8:=HH.out.blk.cell 8;have VP:=HH.out.blk.cell 19;have hgl:=HH.out.blk.lt;simp[dO] at y9 y13 Bt vS Da y8 VP;have hS:∀W,Below w0.heap.size w0 W→(W.cell? ⟨g,11,none⟩=some (.int .i64 (st.first:Nat))∧W.cell? ⟨g,13,none⟩=some (.int .i64 (st.dD:Nat))∧W.cell? ⟨g,14,none⟩=some (.int .i64 (st.bytes:Nat))∧W.cell? ⟨g,16,none⟩=some (.bool st.wait)∧W.cell? ⟨g,18,none⟩=some (.bool st.dW)∧W.cell? ⟨g,8,none⟩=some (.int .i64 (st.done:Nat))∧W.cell? ⟨g,19,none⟩=some (.bool st.failed)):=fun W hW=>
  ⟨(hW.cell (p:=⟨g,11,none⟩) hgl).trans y9,(hW.cell (p:=⟨g,13,none⟩) hgl).trans y13,(hW.cell (p:=⟨g,14,none⟩) hgl).trans Bt,(hW.cell (p:=⟨g,16,none⟩) hgl).trans vS,(hW.cell (p:=⟨g,18,none⟩) hgl).trans Da,(hW.cell (p:=⟨g,8,none⟩) hgl).trans y8,(hW.cell (p:=⟨g,19,none⟩) hgl).trans VP⟩
 have HS:=Lib.hid hS;have hnx:∀W,Below w0.heap.size w0 W→Calls Tryz.prog 87 #[.pointer (some ⟨g,0,none⟩)] W fun e w'=>e= .returned (.int .i64 (bJ st:Nat))∧∃q,W.drewN q=w':=fun W hW=>
  (qi (HH.out.below hW) h1 h2).mono fun e w' hh=>⟨hh.1,by obtain ⟨q,rfl⟩:=hh.2;exact ⟨q,rfl⟩⟩
 have hn0:Calls Tryz.prog 87 #[.pointer (some ⟨g,0,none⟩)] w0.drew fun e w'=>e= .returned (.int .i64 (bJ st:Nat))∧Below w0.heap.size w0 w':=
  (qi (HH.out.below (Below.refl _ w0).drew) h1 h2).mono fun e w' hh=>⟨hh.1,by obtain ⟨q,rfl⟩:=hh.2;exact (Below.refl _ w0).drew.drewN q⟩
 have HN0:=Lib.hid hn0;have Bu:=Lib.hid hnx;clear hn0;clear hnx;clear hS;go_cut [3] from 8 to 38 (fun s3 wx=>∃b,s3= .pointer (some ⟨b,0,none⟩)∧au wx b 65 #[.int .i64 (st.first:Nat),.int .i64 (bJ st:Nat),.int .i64 (st.dD:Nat),.int .i64 (st.bytes:Nat),.int .i64 0,.bool st.wait,.int .i64 0,.bool st.dW,.int .i64 (st.done:Nat),.bool st.failed]∧Below w0.heap.size w0 wx∧w0.heap.size≤b)
 case first=>
  have hb0:=Below.refl w0.heap.size w0
  go_region_held3 (fun W=>W.cell? ⟨g,11,none⟩=some (.int .i64 (st.first:Nat))∧W.cell? ⟨g,13,none⟩=some (.int .i64 (st.dD:Nat))∧W.cell? ⟨g,14,none⟩=some (.int .i64 (st.bytes:Nat))∧W.cell? ⟨g,16,none⟩=some (.bool st.wait)∧W.cell? ⟨g,18,none⟩=some (.bool st.dW)∧W.cell? ⟨g,8,none⟩=some (.int .i64 (st.done:Nat))∧W.cell? ⟨g,19,none⟩=some (.bool st.failed))
   (first|(with_reducible (refine HS.out _ ?_;(repeat first|assumption|refine Below.drew ?_|refine Below.drewN ?_ _|refine bAl ?_ _|refine T6 ?_ _ _);done))|go_keep)
   (first
    |(go_at_call 87;with_reducible (refine HN0.out.mono ?_);rintro e7 w7 ⟨rfl,oN⟩)
    |(go_at_call 87;refine (Bu.out _ (by (repeat first|assumption|refine Below.drew ?_|refine Below.drewN ?_ _|refine bAl ?_ _|refine T6 ?_ _ _))).mono ?_;rintro e7 w7 ⟨rfl,q7,rfl⟩)
    |fail)
  ·go_wp2;go_meet;exact ⟨_,rfl,au.new _ _ _,oN.alloc oN.size _,oN.size⟩
  ·go_wp2;go_meet;refine ⟨_,rfl,?_,?_,Nat.le_refl _⟩
   ·have b:=((((((((((((au.new w0 65 #[.int .i64 0,.int .i64 0,.int .i64 0,.int .i64 0,.int .i64 0,.bool false,.int .i64 0,.bool false,.int .i64 0,.bool false]).drewN (1+q7)).av 0 (.int .i64 (st.first:Nat))).av 1 (.int .i64 (bJ st:Nat))).av 2 (.int .i64 (st.dD:Nat))).av 3 (.int .i64 (st.bytes:Nat))).av 4 (.int .i64 0)).av 5 (.bool st.wait)).av 6 (.int .i64 0)).av 7 (.bool st.dW)).av 8 (.int .i64 (st.done:Nat))).av 9 (.bool st.failed));simpa using b
   ·with_reducible (repeat first|assumption|refine Below.drew ?_|refine Below.drewN ?_ _|refine bAl ?_ _|refine T6 ?_ _ _)
 case rest=>
 obtain ⟨b,rfl,hbk,hbb,hbl⟩:=hcut
 replace vS:=(hbb.cell (p:=⟨g,16,none⟩) hgl).trans vS
 have Gg:=(HH.out.below hbb).blk.cell 15;have MG:=(HH.out.below hbb).blk.cell 17;have HZ2:=Lib.hid (HZ.out.below hbb HZ.out.lt);simp[dO] at Gg MG;have hgb:g≠b:=by omega
 have Gd:=Lib.hid hbb;have hzl:w.heap.size<w0.heap.size:=HZ.out.lt;cases hwt:st.wait with
 |false=>
  rw[hwt] at hbk vS;have hst:Oy st= #[.int .i64 (st.first:Nat),.int .i64 (bJ st:Nat),.int .i64 (st.dD:Nat),.int .i64 (st.bytes:Nat),.int .i64 0,.bool false,.int .i64 0,.bool st.dW,.int .i64 (st.done:Nat),.bool st.failed]:=by unfold Oy;rw[hwt];rfl
  have HST:=Lib.hid hst;have hb2:=hbk;have Hl:=hbb;clear hst hwt hbk hbb Gg MG HS HN0 Bu Gd HZ2;have hZ3:=HZ.out.below Hl HZ.out.lt;have HZ3:=Lib.hid hZ3;have MH:=Lib.hid (HB.out.trans (Hl.mono HB.out.size));have b0:=hb2.cell 0;have b1:=hb2.cell 1;have b2:=hb2.cell 2;have b3:=hb2.cell 3;have b4:=hb2.cell 4;have b5:=hb2.cell 5;have b6:=hb2.cell 6;have b7:=hb2.cell 7;have b8:=hb2.cell 8;have b9:=hb2.cell 9;have fb:=hb2.frozen;simp at b0 b1 b2 b3 b4 b5 b6 b7 b8 b9;have z0:=hZ3.cell 0;have z1:=hZ3.cell 1;have z2:=hZ3.cell 2;have z3:=hZ3.cell 3;have z4:=hZ3.cell 4;have z5:=hZ3.cell 5;have z6:=hZ3.cell 6;have z7:=hZ3.cell 7;have z8:=hZ3.cell 8;have z9:=hZ3.cell 9;have fz:=hZ3.frozen;simp at z0 z1 z2 z3 z4 z5 z6 z7 z8 z9;clear hb2 hZ3 Hl;go_wp2;have hz:=((((((((((HZ3.out.av 0 (.int .i64 (st.first:Nat))).av 1 (.int .i64 (bJ st:Nat))).av 2 (.int .i64 (st.dD:Nat))).av 3 (.int .i64 (st.bytes:Nat))).av 4 (.int .i64 0)).av 5 (.bool false)).av 6 (.int .i64 0)).av 7 (.bool st.dW)).av 8 (.int .i64 (st.done:Nat))).av 9 (.bool st.failed));simp at hz;have HF:=Lib.hid hz
  have HE:=Lib.hid ((((((((((MH.out.setCell (p:=⟨w.heap.size,0,none⟩) (Nat.le_refl _) (.int .i64 (st.first:Nat))).setCell (p:=⟨w.heap.size,1,none⟩) (Nat.le_refl _) (.int .i64 (bJ st:Nat))).setCell (p:=⟨w.heap.size,2,none⟩) (Nat.le_refl _) (.int .i64 (st.dD:Nat))).setCell (p:=⟨w.heap.size,3,none⟩) (Nat.le_refl _) (.int .i64 (st.bytes:Nat))).setCell (p:=⟨w.heap.size,4,none⟩) (Nat.le_refl _) (.int .i64 0)).setCell (p:=⟨w.heap.size,5,none⟩) (Nat.le_refl _) (.bool false)).setCell (p:=⟨w.heap.size,6,none⟩) (Nat.le_refl _) (.int .i64 0)).setCell (p:=⟨w.heap.size,7,none⟩) (Nat.le_refl _) (.bool st.dW)).setCell (p:=⟨w.heap.size,8,none⟩) (Nat.le_refl _) (.int .i64 (st.done:Nat))).setCell (p:=⟨w.heap.size,9,none⟩) (Nat.le_refl _) (.bool st.failed));clear hz b0 b1 b2 b3 b4 b5 b6 b7 b8 b9 z0 z1 z2 z3 z4 z5 z6 z7 z8 z9 fb fz;refine bodyPost_ret (v:= .agg #[.int .i64 (st.first:Nat),.int .i64 (bJ st:Nat),.int .i64 (st.dD:Nat),.int .i64 (st.bytes:Nat),.int .i64 0,.bool false,.int .i64 0,.bool st.dW,.int .i64 (st.done:Nat),.bool st.failed]) ?_ rfl ?_
  ·rw[iO rfl];have e0:=HF.out.cell 0;have e1:=HF.out.cell 1;have e2:=HF.out.cell 2;have e3:=HF.out.cell 3;have e4:=HF.out.cell 4;have e5:=HF.out.cell 5;have e6:=HF.out.cell 6;have e7:=HF.out.cell 7;have e8:=HF.out.cell 8;have e9:=HF.out.cell 9;go_simp
   done
  ·exact ⟨by rw[HST.out],HE.out⟩
 |true=>
  rw[hwt] at hbk vS;have hst:Oy st= #[.int .i64 (st.first:Nat),.int .i64 (bJ st:Nat),.int .i64 (st.dD:Nat),.int .i64 (st.bytes:Nat),.int .i64 (st.polled:Nat),.bool true,.int .i64 st.fE,.bool st.dW,.int .i64 (st.done:Nat),.bool st.failed]:=by unfold Oy;rw[hwt];rfl
  have HST:=Lib.hid hst;have HBK:=Lib.hid hbk;have b4:=hbk.cell 4;have b6:=hbk.cell 6;have f4:=hbk.frozen 4;have f6:=hbk.frozen 6;simp at b4 b6;clear hst hwt hbk hbb HS HN0 Bu HZ2;go_wp2_with fail
  go_region
  all_goals
   go_upto_region 6 with (fail)
   have Hl:=((Gd.out.setCell (p:=⟨b,4,none⟩) (by show w0.heap.size≤b;omega) (.int .i64 (st.polled:Nat))).setCell (p:=⟨b,6,none⟩) (by show w0.heap.size≤b;omega) (.int .i64 st.fE)).drew;have hb2:=((HBK.out.av 4 (.int .i64 (st.polled:Nat))).av 6 (.int .i64 st.fE)).drew;simp at hb2;clear Gg vS MG b4 b6 f4 f6;generalize ((wc.setCell ⟨b,4,none⟩ (.int .i64 (st.polled:Nat))).setCell ⟨b,6,none⟩ (.int .i64 st.fE)).drew=wd at*;have hZ3:=HZ.out.below Hl HZ.out.lt;have HZ3:=Lib.hid hZ3;have MH:=Lib.hid (HB.out.trans (Hl.mono HB.out.size));have b0:=hb2.cell 0;have b1:=hb2.cell 1;have b2:=hb2.cell 2;have b3:=hb2.cell 3;have b4:=hb2.cell 4;have b5:=hb2.cell 5;have b6:=hb2.cell 6;have b7:=hb2.cell 7;have b8:=hb2.cell 8;have b9:=hb2.cell 9;have fb:=hb2.frozen;simp at b0 b1 b2 b3 b4 b5 b6 b7 b8 b9;have z0:=hZ3.cell 0;have z1:=hZ3.cell 1;have z2:=hZ3.cell 2;have z3:=hZ3.cell 3;have z4:=hZ3.cell 4;have z5:=hZ3.cell 5;have z6:=hZ3.cell 6;have z7:=hZ3.cell 7;have z8:=hZ3.cell 8;have z9:=hZ3.cell 9;have fz:=hZ3.frozen;simp at z0 z1 z2 z3 z4 z5 z6 z7 z8 z9;clear hb2 hZ3 Hl;go_wp2;have hz:=((((((((((HZ3.out.av 0 (.int .i64 (st.first:Nat))).av 1 (.int .i64 (bJ st:Nat))).av 2 (.int .i64 (st.dD:Nat))).av 3 (.int .i64 (st.bytes:Nat))).av 4 (.int .i64 (st.polled:Nat))).av 5 (.bool true)).av 6 (.int .i64 st.fE)).av 7 (.bool st.dW)).av 8 (.int .i64 (st.done:Nat))).av 9 (.bool st.failed));simp at hz;have HF:=Lib.hid hz
   have HE:=Lib.hid ((((((((((MH.out.setCell (p:=⟨w.heap.size,0,none⟩) (Nat.le_refl _) (.int .i64 (st.first:Nat))).setCell (p:=⟨w.heap.size,1,none⟩) (Nat.le_refl _) (.int .i64 (bJ st:Nat))).setCell (p:=⟨w.heap.size,2,none⟩) (Nat.le_refl _) (.int .i64 (st.dD:Nat))).setCell (p:=⟨w.heap.size,3,none⟩) (Nat.le_refl _) (.int .i64 (st.bytes:Nat))).setCell (p:=⟨w.heap.size,4,none⟩) (Nat.le_refl _) (.int .i64 (st.polled:Nat))).setCell (p:=⟨w.heap.size,5,none⟩) (Nat.le_refl _) (.bool true)).setCell (p:=⟨w.heap.size,6,none⟩) (Nat.le_refl _) (.int .i64 st.fE)).setCell (p:=⟨w.heap.size,7,none⟩) (Nat.le_refl _) (.bool st.dW)).setCell (p:=⟨w.heap.size,8,none⟩) (Nat.le_refl _) (.int .i64 (st.done:Nat))).setCell (p:=⟨w.heap.size,9,none⟩) (Nat.le_refl _) (.bool st.failed));clear hz b0 b1 b2 b3 b4 b5 b6 b7 b8 b9 z0 z1 z2 z3 z4 z5 z6 z7 z8 z9 fb fz;refine bodyPost_ret (v:= .agg #[.int .i64 (st.first:Nat),.int .i64 (bJ st:Nat),.int .i64 (st.dD:Nat),.int .i64 (st.bytes:Nat),.int .i64 (st.polled:Nat),.bool true,.int .i64 st.fE,.bool st.dW,.int .i64 (st.done:Nat),.bool st.failed]) ?_ rfl ?_
   ·rw[iO rfl];have e0:=HF.out.cell 0;have e1:=HF.out.cell 1;have e2:=HF.out.cell 2;have e3:=HF.out.cell 3;have e4:=HF.out.cell 4;have e5:=HF.out.cell 5;have e6:=HF.out.cell 6;have e7:=HF.out.cell 7;have e8:=HF.out.cell 8;have e9:=HF.out.cell 9;go_simp
    done
   ·exact ⟨by rw[HST.out],HE.out⟩
end
end
section
open Go.RowKit Go.Shelf
attribute [local go_sem] Oper.semAt_some
theorem Ka (b:Nat) (w:World):
 Calls Tryz.prog 164 #[.pointer (some ⟨b,0,none⟩)] w fun e w'=>e= .returned (.func (.func 201) #[] #[.pointer (some ⟨w.heap.size,0,none⟩)])∧w'=w.alloc (.cells #[.pointer (some ⟨b,0,none⟩)] 161):=by
 go_enter Tryz.func164,Tryz.ntmps164;go_wp2;go_ret;exact ⟨rfl,rfl⟩
def Bz (x:Nk):Array Value:= #[.int .i64 x.sn,.bool x.part,.int .i64 x.fr,.int .i64 x.lt]
theorem Ho (sn:Int) (gs:Nat) (x:Nat × Nat) (w:World) (h:w.cell? ⟨gs,0,none⟩=some (.int .i64 sn)) (hg:gs<w.heap.size):
 Calls Tryz.prog 165 #[.int .i64 (x.1:Nat),.int .i64 (x.2:Nat),.pointer (some ⟨gs,0,none⟩)] w fun e w'=>e= .returned (.agg (Bz ⟨sn,true,(x.1:Nat),(x.2:Nat)⟩))∧Below w.heap.size w w':=by
 have hz:=au.new w 197 (Bz ⟨sn,true,(x.1:Nat),(x.2:Nat)⟩);have HZ:=Lib.hid hz;clear hz;go_enter Tryz.func165,Tryz.ntmps165;go_wp2;refine bodyPost_ret (v:= .agg (Bz ⟨sn,true,(x.1:Nat),(x.2:Nat)⟩)) ?_ rfl ⟨rfl,(Below.refl _ w).alloc (Nat.le_refl _) _⟩;rw[iO rfl];have c0:=HZ.out.cell 0;have c1:=HZ.out.cell 1;have c2:=HZ.out.cell 2;have c3:=HZ.out.cell 3;simp[Bz] at c0 c1 c2 c3;go_simp;rfl
end
section
open Go.RowKit Go.Shelf
structure Hq (B:Nat) (J:Nat→World→Prop):Prop where
 own:OwnFrom B J
 fresh:∀k A A',J k A→Below A.heap.size A A'→J k A'
theorem Hq.mono {B B':Nat} {J:Nat→World→Prop} (h:Hq B J) (hB:B≤B'):Hq B' J:=
 ⟨fun s A A' row hs hg hr=>h.own s A A' row hs hg (fun r e=>⟨Nat.le_trans hB (hr r e).1,(hr r e).2⟩),h.fresh⟩
def MI (n:Nat) (P:Program) (g:Nat) (lb:Array Value) (vals:Nat→Array Value) (N:Nat) (Kp:World→World→Prop) (w:World):Prop:=
 ∀(l:Nat) (J:Nat→World→Prop) (W:World),Below w.heap.size w W→w.heap.size+2≤W.heap.size→Hq W.heap.size J→
  (∀k W1,k<N→J k W1→YieldAt Fence.wide (n-1) P l (vals k) W1 fun e W'=>e= .returned (.bool true)∧J (k+1) W'∧Kp W1 W')→J 0 W→
  CallsIn Fence.wide n P g (#[.func (.yield l) #[] #[]]++lb) W fun e W'=>(∃v,e= .returned v)∧J N W'
def Hr (B:Nat) (Kp:World→World→Prop) (I:Nat→World→Prop) (k:Nat) (W0 W:World):Exit→Act→World→Prop
 | .normal,_,W'=>KeepsFrom B W W'∧Kp W0 W'∧I k W'
 |_,_,_=>False
theorem P5 (k:Nat):Fence.wide.room k:=fun d h=>by cases h
variable {n:Nat} {P:Program}
theorem RoundIn.ix {m m':Nat} {P:Program} {l l':Nat} {f:FuncId} {tmps:Array Value} {assign body:Code} {w:World} {R:Ending→World→Prop}
 (h:RoundIn Fence.wide m P l f tmps assign body w R):RoundIn (Fence.wide.inRound l') m' P l f tmps assign body w R:=⟨h.1,fun c cs _=>h.2 c cs (P5 _)⟩
theorem qH {g:Operand} {ps:Array Tmp} {assign body:Code} {Q:Exit→Act→World→Prop} {a:Act} {w:World}
 {gf:Nat} {lb:Array Value} (hg:a.eval g= .func (.func gf) #[] lb) (eg:∀args w,(callFunc gf args).run P w= .ok (.enter gf args) w)
 {vals:Nat→Array Value} {N:Nat} {Kp:World→World→Prop} {w0:World} (hseq:MI (n-1) P gf lb vals N Kp w0)
 (hKt:∀{A B C:World},Kp A B→Kp B C→Kp A C) (hKb:∀(W:World) (o o':Obj),W.heap[w.heap.size+1]? =some o→o.isCells=false→Kp W (W.putObj (w.heap.size+1) o')) (hb0:Below w0.heap.size w0 w)
 (hps:∀k,(vals k).size=ps.size) (I:Nat→World→Prop) (hI:Hq w.heap.size I) (h0:I 0 w)
 (T7:∀(l k:Nat) (W:World),k<N→I k W→(∃o,W.heap[w.heap.size+1]? =some o∧o.isCells=false)→
  assign.wpIn (Fence.wide.inRound l) (n-1-1) P (Exit.then (fun a' W'=>KeepsFrom w.heap.size W W'∧
   ∀W2 o',W2=W'.putObj (w.heap.size+1) o'→body.wpIn (Fence.wide.inRound l) (n-1-1) P (Hr w.heap.size Kp I (k+1) W W2) a' W2) (fun _ _ _=>False))
   {tmps:=(ps.zip (vals k)).foldl (fun t (p,v)=>t.setIfInBounds p v) a.tmps,defers:= []} W)
 (hdone:∀(D:Nat) (W:World),w.heap.size≤D→I N W→W.heap[D]? =some (.deferred (some []))→Q .normal {a with defers:= {target:= .collected D,args:= #[]}::a.defers} W):
 (Code.rangeFunc g ps assign body).wpIn Fence.wide n P Q a w:=by
 refine wpIn_rangeFunc fun fn hfn=> ?_
 rw[show Fence.wide.round=none from rfl]
 let R:LoopState→Loop:=fun st=> {state:=st,pending:=none,fn,tmps:=a.tmps,params:=ps,assign,body,defers:=w.heap.size}
 let W1:=(w.alloc (.deferred (some []))).alloc (.loop (R .ready))
 have hsz:W1.heap.size=w.heap.size+2:=by simp[W1]
 have hL1:W1.heap[w.heap.size+1]? =some (.loop (R .ready)):=by
  have:=World.alloc_heap_new (w.alloc (.deferred (some []))) (.loop (R .ready));rwa [World.size_alloc] at this
 have hD1:W1.heap[w.heap.size]? =some (.deferred (some [])):=(Below.heap_alloc _ _ _ (by simp)).trans (World.alloc_heap_new w _);have hBW:Below w0.heap.size w0 W1:=hb0.trans ((((Below.refl _ w).alloc (Nat.le_refl _) _).alloc (by simp) _).mono hb0.size)
 let J:Nat→World→Prop:=fun k W=>I k W∧W.heap[w.heap.size+1]? =some (.loop (R .ready))∧W.heap[w.heap.size]? =some (.deferred (some []))
 have hJ:Hq W1.heap.size J:=by
  refine ⟨fun k A B row hs hgr hr=> ?_,fun k A A' hs hb=> ?_⟩
  ·refine ⟨hI.own k A B row hs.1 hgr (fun r e=>⟨by have:=(hr r e).1;omega,(hr r e).2⟩),?_,?_⟩
   ·exact (hgr.block _ (Array.getElem?_eq_some_iff.1 hs.2.1).1 (fun e=>by have:=(hr _ e.symm).1;omega)).trans hs.2.1
   ·exact (hgr.block _ (Array.getElem?_eq_some_iff.1 hs.2.2).1 (fun e=>by have:=(hr _ e.symm).1;omega)).trans hs.2.2
  ·exact ⟨hI.fresh k A A' hs.1 hb,(hb.block _ (Array.getElem?_eq_some_iff.1 hs.2.1).1).trans hs.2.1,(hb.block _ (Array.getElem?_eq_some_iff.1 hs.2.2).1).trans hs.2.2⟩
 refine ⟨w.heap.size+1,[{target:= .collected w.heap.size,args:= #[]}],W1,{target:= .fn (.func gf) lb,args:= #[.func (.yield (w.heap.size+1)) #[] #[]]},W1,gf,
  #[.func (.yield (w.heap.size+1)) #[] #[]]++lb,W1,run_enterLoop_outer _ _ _ _ _,?_,?_,?_,(fun hh=>(by cases hh)),?_⟩
 ·simp only[resolve,hg];simp[go_sem]
 ·intro f' hf';simp[Target.leads] at hf';subst hf';exact trivial
 ·simp[invoke,go_sem,eg]
 refine (hseq (w.heap.size+1) J W1 hBW (by have:=hb0.size;omega) hJ (fun k W hk hjk=> ?_) ⟨hI.fresh _ _ _ h0 (((Below.refl _ w).alloc (Nat.le_refl _) _).alloc (by simp) _),hL1,hD1⟩).mono ?_
 ·
  obtain ⟨hi,hl,hd⟩:=hjk;refine ⟨fn,_,assign,body,run_yield (P:=P) (args:=vals k) hl (hps k),roundIn_of_wpIn hfn ?_⟩;refine wpIn_mono (T7 _ k W hk hi ⟨_,hl,rfl⟩) ?_;rintro ex a2 W2 hp;cases ex with
  |normal=>
   obtain ⟨hk2,hbd⟩:=hp;have hl2:=hk2.same _ _ (by omega) hl rfl;have hd2:=hk2.same _ _ (Nat.le_refl _) hd rfl;refine ⟨_,run_beginRound hl2 rfl,?_⟩;have hlb:(W2.putObj (w.heap.size+1) (.loop (R .busy))).heap[w.heap.size+1]? =some (.loop (R .busy)):=World.putObj_heap_same (Array.getElem?_eq_some_iff.1 hl2).1;have hdb:(W2.putObj (w.heap.size+1) (.loop (R .busy))).heap[w.heap.size]? =some (.deferred (some [])):=(World.putObj_heap_other (by omega)).trans hd2;refine wpIn_mono (hbd _ _ rfl) ?_;rintro ex a3 W3 hp;cases ex with
   |normal=>
    obtain ⟨hk3,hkp,hi3⟩:=hp;have hl3:=hk3.same _ _ (by omega) hlb rfl;have hd3:=hk3.same _ _ (Nat.le_refl _) hdb rfl;refine ⟨_,_,run_endRound (P:=P) none hl3,rfl,⟨hI.own.putObj _ hi3 (by omega) hl3 rfl,World.putObj_heap_same (Array.getElem?_eq_some_iff.1 hl3).1,(World.putObj_heap_other (by omega)).trans hd3⟩,?_⟩;exact hKt hkp (hKb _ _ _ hl3 rfl)
   |ret=>exact hp.elim
   |exit id=>exact hp.elim
   |goto t=>exact hp.elim
   |panic ch=>exact hp.elim
   |outgrown=>exact hp.elim
  |ret=>exact hp.elim
  |exit id=>exact hp.elim
  |goto t=>exact hp.elim
  |panic ch=>exact hp.elim
  |outgrown=>exact hp.elim
 ·rintro e W2 ⟨⟨v,rfl⟩,hi,hl,hd⟩;exact ⟨none,_,run_endLoop (P:=P) hl (by simp[R]),hdone _ _ (Nat.le_refl _) (hI.own.putObj _ hi (by omega) hl rfl) ((World.putObj_heap_other (by omega)).trans hd)⟩
end
end Go.Proofs.YtbhiklnljiehiaaGreat
