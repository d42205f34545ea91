/- Rows of ranges: append, Clone, Grow, Concat. Plain mathematics: cutting a segment again is cutting the PDU. amsend: rows that grow: what stays. amsend: again. -/
import Derived.Test.YtiecgfahidpldaaGreatM3ab
import Derived.Test.YtiecgfahidpldaaGreatM3ac
import Derived.Test.YtiecgfahidpldaaGreatM3ad
import Derived.Test.YtiecgfahidpldaaGreatM3ae
import Derived.Test.YtiecgfahidpldaaGreatM3ah
import Derived.Lib.AppendZeros
import Derived.Deep.CutBlock
namespace Go.Proofs.YtiecgfahidpldaaGreat
section
open Go.RowKit
attribute [local go_sem] Oper.semAt_some
def mV (l:List (Nat × Nat)):List Value:=l.flatMap (fun r=> [.int .i64 (r.1:Nat),.int .i64 (r.2:Nat)])
theorem rQ (l:List (Nat × Nat)):(mV l).length=l.length*2:=by
 induction l with
 |nil=>rfl
 |cons r t ih=>
  simp only[mV,List.flatMap_cons,List.length_append,List.length_cons,List.length_nil] at ih ⊢;omega
theorem Fz (r:Nat × Nat) (t:List (Nat × Nat)):mV (r::t)= .int .i64 (r.1:Nat):: .int .i64 (r.2:Nat)::mV t:=by simp[mV]
theorem tQ (a b:List (Nat × Nat)):mV (a++b)=mV a++mV b:=by simp[mV]
theorem xE:∀(l:List (Nat × Nat)) (j:Nat) (r:Nat × Nat),l[j]? =some r→(mV l)[j*2]? =some (.int .i64 (r.1:Nat))∧(mV l)[j*2+1]? =some (.int .i64 (r.2:Nat))
 | [],j,r,h=>by simp at h
 |x::t,0,r,h=>by
  simp at h;subst h;rw[Fz];exact ⟨rfl,rfl⟩
 |x::t,j+1,r,h=>by
  have ih:=xE t j r (by simpa using h);rw[Fz];rw[show (j+1)*2=j*2+1+1 by omega];exact ih
theorem QR (l:List (Nat × Nat)):∀u∈mV l,u.oneCell'=true:=by
 intro u hu;simp only[mV,List.mem_flatMap,List.mem_cons,List.not_mem_nil,or_false] at hu;obtain ⟨r,_,rfl|rfl⟩:=hu<;>rfl
section
variable {w w':World} {A:Option Addr} {n c:Nat} {l:List (Nat × Nat)}
theorem cZ.cells {ad:Addr} (h:cZ w (some ad) n c l):∀j u,(mV l)[j]? =some u→w.cell? (ad.add j)=some u:=by
 intro j u hu;have hj:=(List.getElem?_eq_some_iff.1 hu).1;rw[rQ] at hj;have hn:=h.len;obtain ⟨wM,e,hb,hc⟩:=h.at_ (by omega);cases e;obtain ⟨r,hr⟩:∃r,l[j/2]? =some r:=⟨_,List.getElem?_eq_getElem (by omega)⟩
 obtain ⟨g1,g2⟩:=xE l _ r hr;obtain ⟨k1,k2⟩:=hc _ r hr;rcases Nat.mod_two_eq_zero_or_one j with hm|hm
 ·have e2:j/2*2=j:=by omega
  rw[e2] at g1 k1;rw[g1] at hu;cases hu;exact k1
 ·have e2:j/2*2+1=j:=by omega
  rw[e2] at g2 k2;rw[g2] at hu;cases hu;exact k2
theorem cZ.cO {base:Nat} {v:Value} (h:w.ownsRow base 99 2 v l.length (mV l)):
 ∃A c,v= .slice A l.length c∧cZ w A l.length c l∧(∀ad,A=some ad→base≤ad.block∧ad.block<w.heap.size):=by
 rcases h.2 with ⟨rfl,hn⟩|⟨g,cap,cur,rfl,hb,hg,hnc,hcm,hcs,ht⟩
 ·have:=List.eq_nil_of_length_eq_zero hn;subst this;exact ⟨none,0,rfl,cZ.nil w,fun ad e=>by cases e⟩
 ·refine ⟨_,_,rfl,⟨rfl,hnc,by unfold maxLen at hcm;omega,fun _=>⟨_,rfl,lt_of_heap hg,fun j r hr=> ?_⟩⟩,fun ad e=>by cases e;exact ⟨hb,lt_of_heap hg⟩⟩;have hc:=fun j u (hu:(mV l)[j]? =some u)=>h.cells (g:=g) rfl j u hu
  obtain ⟨g1,g2⟩:=xE l j r hr;exact ⟨hc _ _ g1,hc _ _ g2⟩
theorem cZ.tail {ad:Addr} {r:Nat × Nat} (h:cZ w (some ad) (n+1) c (r::l)):cZ w (some (if c=1 then ad else ad.add 2)) n (c-1) l:=by
 have hl:=h.len;have hc:=h.cap;have hm:=h.mx;simp at hl;refine ⟨hl,by omega,by omega,fun hn=> ?_⟩;obtain ⟨wM,e,hb,hcl⟩:=h.at_ (by omega);cases e;rw[if_neg (by omega)];refine ⟨_,rfl,by rw[block_add];exact hb,fun j q hq=> ?_⟩;have:=hcl (j+1) q (by simpa using hq);rw[add_add,add_add,show 2+j*2=(j+1)*2 by omega,show 2+(j*2+1)=(j+1)*2+1 by omega];exact this
theorem cZ.below (h:cZ w A n c l) (hb:Below w.heap.size w w'):cZ w' A n c l:=by
 rcases Nat.eq_zero_or_pos n with h0|h0
 ·exact ⟨h.len,h.cap,h.mx,fun hn=>by omega⟩
 ·obtain ⟨ad,e,hlt,hc⟩:=h.at_ h0;exact h.stay fun wM e'=>hb.block _ (by rw[e] at e';cases e';exact hlt)
theorem cZ.alloc (h:cZ w A n c l) (o:Obj):cZ (w.alloc o) A n c l:=h.below ((Below.refl _ w).alloc (Nat.le_refl _) o)
end
theorem QS:(Tryz.prog.info? 99).map (fun i=>(i.zero,i.size,i.bytes))=some (some (.agg #[.int .i64 0,.int .i64 0]),2,16):=by kernel_rfl
theorem nT:∃i,Tryz.prog.info? 99=some i∧i.zero=some (.agg #[.int .i64 0,.int .i64 0])∧i.size=2∧i.bytes=16:=by
 have h:=QS;cases hi:Tryz.prog.info? 99 with
 |none=>rw[hi] at h;cases h
 |some i=>
  rw[hi] at h;simp only[Option.map_some,Option.some.injEq,Prod.mk.injEq] at h;exact ⟨i,rfl,h.1,h.2.1,h.2.2⟩
theorem qA:Tryz.prog.underlying 95=some (.slice 99):=by kernel_rfl
section
variable {P:Program} (w:World)
theorem Bb (base:Nat) (t ty e:TypeId) (i:TypeInfo) (z:Value) (bytes:Nat) (ht:P.underlying t=some (.slice e)) (hi:P.info? e=some i) (hz:i.zero=some z)
 (hsize:i.size=2) (hby:i.bytes=bytes) (hzs:z.cells.size=2)
 (v:Value) (n:Nat) (xs:List Value) (hown:w.ownsRow base e 2 v n xs)
 (A:Option Addr) (m c:Nat) (l:List (Nat × Nat)) (hr:cZ w A m c l)
 (h63:n+m≤maxLen) (hbytes:(n+m)*bytes≤140737488355328) (hbase:base≤w.heap.size):
 ∃v' w',(Builtin.append_ #[t,t] ty #[v,.slice A m c]).run P w= .ok v' w'∧w'.ownsRow base e 2 v' (n+m) (xs++mV l)∧w.grownBy w' v.ownBlock∧
  (v'.ownBlock=v.ownBlock∨v'.ownBlock=some w.heap.size):=by
 rcases A with _|ad
 ·have hm:m=0:=by
   rcases Nat.eq_zero_or_pos m with h0|h0
   ·exact h0
   ·obtain ⟨ad,h,_⟩:=hr.at_ h0;cases h
  subst hm;have hn:l= []:=List.eq_nil_of_length_eq_zero hr.len;subst hn;exact ⟨v,w,jA w base t ty e i 2 ht hi v n xs hown c,by simpa[mV] using hown,World.grownBy.refl w _,.inl rfl⟩
 ·obtain ⟨v',w',hrun,h2,h3,_,h5⟩:=run_append_own_at (P:=P) w base t ty e i z 2 bytes ht hi hz hsize hby hzs (by omega) v n xs hown ad m c (mV l) (by rw[rQ,hr.len]) hr.cells (QR l) h63 hbytes hbase;exact ⟨v',w',hrun,h2,h3,h5⟩
theorem tT {o:Oper} {a:Act} {K:Act→World→Prop} {Q:Exit→Act→World→Prop} (s x:Operand) (t:TypeId)
 (ho:o.op= .call {callee:= .builtin .append,args:= #[s,x],argTypes:= #[t,t]})
 (base:Nat) (e:TypeId) (i:TypeInfo) (z:Value) (bytes:Nat) (ht:P.underlying t=some (.slice e)) (hi:P.info? e=some i) (hz:i.zero=some z)
 (hsize:i.size=2) (hby:i.bytes=bytes) (hzs:z.cells.size=2)
 (v:Value) (n:Nat) (xs:List Value) (hs:a.eval s=v) (hown:w.ownsRow base e 2 v n xs)
 (A:Option Addr) (m c:Nat) (l:List (Nat × Nat)) (hx:a.eval x= .slice A m c) (hr:cZ w A m c l)
 (h63:n+m≤maxLen) (hbytes:(n+m)*bytes≤140737488355328) (hbase:base≤w.heap.size)
 (h:∀v' w',w'.ownsRow base e 2 v' (n+m) (xs++mV l)→w.grownBy w' v.ownBlock→(v'.ownBlock=v.ownBlock∨v'.ownBlock=some w.heap.size)→K (a.put o.dst v') w'):o.wp P a w K Q:=by
 obtain ⟨v',w',hrun,h2,h3,h4⟩:=Bb (P:=P) w base t o.type e i z bytes ht hi hz hsize hby hzs v n xs hown A m c l hr h63 hbytes hbase;unfold Oper.wp execOp;simp only[ho,resolve,invoke,builtin,Sem.run_bind,Sem.run_pure,Result.andThen_ok,List.map_toArray,List.map_cons,List.map_nil,hs,hx,hrun];exact h v' w' h2 h3 h4
theorem gq {ops:Array Oper} {rest:List Oper} {o:Oper} {a:Act} {Q:Exit→Act→World→Prop} (hgd:o.guard=none) (s x:Operand) (t:TypeId)
 (ho:o.op= .call {callee:= .builtin .append,args:= #[s,x],argTypes:= #[t,t]})
 (base:Nat) (e:TypeId) (i:TypeInfo) (z:Value) (bytes:Nat) (ht:P.underlying t=some (.slice e)) (hi:P.info? e=some i) (hz:i.zero=some z)
 (hsize:i.size=2) (hby:i.bytes=bytes) (hzs:z.cells.size=2)
 (v:Value) (n:Nat) (xs:List Value) (hs:a.eval s=v) (hown:w.ownsRow base e 2 v n xs)
 (A:Option Addr) (m c:Nat) (l:List (Nat × Nat)) (hx:a.eval x= .slice A m c) (hr:cZ w A m c l)
 (h63:n+m≤maxLen) (hbytes:(n+m)*bytes≤140737488355328) (hbase:base≤w.heap.size)
 (h:∀v' w',w'.ownsRow base e 2 v' (n+m) (xs++mV l)→w.grownBy w' v.ownBlock→(v'.ownBlock=v.ownBlock∨v'.ownBlock=some w.heap.size)→wpList P ops Q rest (a.put o.dst v') w'):wpList P ops Q (o::rest) a w:=
 wpList_plain hgd fun _ hK=>tT w s x t ho base e i z bytes ht hi hz hsize hby hzs v n xs hs hown A m c l hx hr h63 hbytes hbase fun v' w' h2 h3 h4=>hK _ _ (h v' w' h2 h3 h4)
end
def xG (w:World) (l:List (Nat × Nat)) (e:Ending) (w':World):Prop:=
 ∃v,e= .returned v∧w'.ownsRow w.heap.size 99 2 v l.length (mV l)∧Below w.heap.size w w'
set_option maxRecDepth 3000 in
set_option maxHeartbeats 400000 in
theorem qB (A:Option Addr) (n c:Nat) (l:List (Nat × Nat)) (w:World) (h:cZ w A n c l) (hsm:n≤1000000):
 Calls Tryz.prog 82 #[.slice A n c] w (xG w l):=by
 have hnil:=fun (W:World)=>Lib.run_eql_slice_nil (P:=Tryz.prog) W 95 99 A n c 0 0 qA
 obtain ⟨i0,hi,hz0,hz1,hz2⟩:=nT;have hl:=h.len;subst hl;have hs1:=h.alloc (.cells #[] 99);rcases A with _|ad
 ·have hl:l= []:=by
   rcases Nat.eq_zero_or_pos l.length with h0|h0
   ·exact List.eq_nil_of_length_eq_zero h0
   ·obtain ⟨_,e,_⟩:=h.at_ h0;cases e
  subst hl;simp only[List.length_nil] at hnil ⊢;clear hs1 h;go_enter Tryz.func82,Tryz.ntmps82;go_wp2;go_ret;exact ⟨_,rfl,World.ownsRow_nil _ _ _ _,Below.refl _ _⟩
 ·go_enter Tryz.func82,Tryz.ntmps82;go_wp2_with (at_builtin;refine gq _ rfl _ _ 95 rfl w.heap.size 99 i0 (.agg #[.int .i64 0,.int .i64 0]) 16 qA hi hz0 hz1 hz2 rfl (.slice (some ⟨w.heap.size,0,none⟩) 0 0) 0 [] rfl ?c0 (some ad) l.length c l rfl hs1 ?c3 ?c4 ?c5 ?_)
  case c0=>exact World.ownsRow_lit w #[] 0 (Nat.le_refl _) (by unfold maxLen;omega) rfl
  case c3=>unfold maxLen;omega
  case c4=>omega
  case c5=>simp
  intro v' w1 hown' hgrow _;go_wp2;go_ret;exact ⟨_,rfl,by simpa using hown',((Below.refl _ w).alloc (Nat.le_refl _) _).grown hgrow (by simp) (by simp[Value.ownBlock])⟩
set_option maxRecDepth 3000 in
set_option maxHeartbeats 400000 in
theorem I4 (n:Nat) (w:World) (hsm:n≤1000000):Calls Tryz.prog 171 #[.slice none 0 0,.int .i64 n] w (xG w []):=by
 obtain ⟨i0,hi,hz0,hz1,hz2⟩:=nT;rcases Nat.eq_zero_or_pos n with rfl|hpos
 ·go_enter Tryz.func171,Tryz.ntmps171;go_wp2;go_ret;exact ⟨_,rfl,World.ownsRow_nil _ _ _ _,Below.refl _ _⟩
 ·have hr:=Lib.run_append_nil_zeros (P:=Tryz.prog) w 95 3 95 99 i0 (.agg #[.int .i64 0,.int .i64 0]) .i64 .i64 qA (by kernel_rfl) hi hz0 n hpos (by omega) (by omega) (by rw[hz2];omega);have hcap:=grownCap_ge w n 0 99;have hmx:=grownCap_le_maxLen w n 0 99 (by unfold maxLen;omega);unfold maxLen at hmx;generalize grownCap w n 0 99=cap at*;have HR:=Lib.hid hr;clear hr;go_enter Tryz.func171,Tryz.ntmps171;go_wp2_with (at_builtin;refine Lib.wpList_append_run _ rfl _ _ 95 3 rfl (.slice none 0 0) (.int .i64 n) rfl rfl _ _ HR.out ?_);go_ret;refine ⟨_,rfl,⟨rfl,.inr ⟨w.heap.size,cap,_,rfl,Nat.le_refl _,heap_alloc_new w _,Nat.zero_le _,by unfold maxLen;omega,?_,rfl⟩⟩,((Below.refl _ w).alloc (Nat.le_refl _) _).drew⟩;rw[Array.size_append,size_zeroCells,size_zeroCells];simp;omega
structure Cj (w:World) (b:Nat) (A1 A2:Option Addr) (n1 c1 n2 c2:Nat) (l1 l2:List (Nat × Nat)):Prop where
 b:aA w b 95 #[.slice A1 n1 c1,.slice A2 n2 c2]
 s1:cZ w A1 n1 c1 l1
 s2:cZ w A2 n2 c2 l2
theorem Cj.below {w w':World} {b:Nat} {A1 A2:Option Addr} {n1 c1 n2 c2:Nat} {l1 l2:List (Nat × Nat)} (h:Cj w b A1 A2 n1 c1 n2 c2 l1 l2) (hb:Below w.heap.size w w'):Cj w' b A1 A2 n1 c1 n2 c2 l1 l2:=
 ⟨h.b.below hb h.b.lt,h.s1.below hb,h.s2.below hb⟩
def Ck (l1 l2:List (Nat × Nat)):Nat→List (Nat × Nat)
 |0=> []
 |1=>l1
 |_=>l1++l2
set_option maxRecDepth 3000 in
set_option maxHeartbeats 1000000 in
theorem tV (b:Nat) (A1 A2:Option Addr) (n1 c1 n2 c2:Nat) (l1 l2:List (Nat × Nat)) (w:World) (h:Cj w b A1 A2 n1 c1 n2 c2 l1 l2) (h1:n1≤100000) (h2:n2≤100000):
 Calls Tryz.prog 145 #[.slice (some ⟨b,0,none⟩) 2 2] w (xG w (l1++l2)):=by
 obtain ⟨i0,hi,hz0,hz1,hz2⟩:=nT;have q1:=h.s1.cap;have q2:=h.s1.mx;have q3:=h.s2.cap;have q4:=h.s2.mx;have hl1:=Lib.hid h.s1.len;have hl2:=Lib.hid h.s2.len;have e1:=h.b.cell 0;have e2:=h.b.cell 1;simp at e1 e2;have HH:=Lib.hid h;clear h;go_enter Tryz.func145,Tryz.ntmps145;go_wp2
 go_loop [3,11] (fun t i=>(i= .int .i64 0∧t= .int .i64 0)∨(i= .int .i64 1∧t= .int .i64 (n1:Nat))∨(i= .int .i64 2∧t= .int .i64 (n1+n2:Nat))) (fun _ i=>2-(intOf i).toNat)
 case atStart=>exact .inl ⟨rfl,rfl⟩
 case round=>
  rcases hrel with ⟨rfl,rfl⟩|⟨rfl,rfl⟩|⟨rfl,rfl⟩
  ·go_wp2
   go_round
   case rel=>exact .inr (.inl ⟨rfl,rfl⟩)
   case measure=>simp[intOf]
  ·go_wp2
   go_round
   case rel=>exact .inr (.inr ⟨rfl,by go_num⟩)
   case measure=>simp[intOf]
  ·have hgr:=I4 (n1+n2) w (by omega);have HGR:=Lib.hid hgr;clear hgr;go_wp2_with fail;refine HGR.out.mono ?_;rintro e w1 ⟨v1,rfl,hv1,hb1⟩;go_wp2
   go_loopw [6,27] (fun v i wr=>∃k:Nat,k≤2∧i= .int .i64 k∧wr.ownsRow w.heap.size 99 2 v (Ck l1 l2 k).length (mV (Ck l1 l2 k))∧Below w.heap.size w wr) (fun _ i _=>2-(intOf i).toNat)
   case atStart=>exact ⟨0,by decide,rfl,hv1,hb1⟩
   case round=>
    clear hv1 hb1;obtain ⟨k,hk,rfl,hown,hbw⟩:=hrel;have hT:=HH.out.below hbw;have QT:=hl1.out;have YO:=hl2.out;have f1:=hT.b.cell 0;have f2:=hT.b.cell 1;simp at f1 f2;obtain rfl|rfl|rfl:k=0∨k=1∨k=2:=by omega
    ·go_wp2_with (at_builtin;refine gq _ rfl _ _ 95 rfl w.heap.size 99 i0 (.agg #[.int .i64 0,.int .i64 0]) 16 qA hi hz0 hz1 hz2 rfl _ 0 [] rfl hown A1 n1 c1 l1 rfl hT.s1 ?c3 ?c4 ?c5 ?_)
     case c3=>unfold maxLen;omega
     case c4=>omega
     case c5=>exact hbw.size
     intro v' w2 hown' hgrow _;go_wp2
     go_roundw
     case rel=>exact ⟨1,by decide,by go_num,by simpa[Ck,QT] using hown',hbw.grown hgrow hbw.size (fun j hj=>(hown.lt j hj).1)⟩
     case measure=>simp[intOf]
    ·rw[show Ck l1 l2 1=l1 from rfl,QT] at hown;go_wp2_with (at_builtin;refine gq _ rfl _ _ 95 rfl w.heap.size 99 i0 (.agg #[.int .i64 0,.int .i64 0]) 16 qA hi hz0 hz1 hz2 rfl _ n1 (mV l1) rfl hown A2 n2 c2 l2 rfl hT.s2 ?c3 ?c4 ?c5 ?_)
     case c3=>unfold maxLen;omega
     case c4=>omega
     case c5=>exact hbw.size
     intro v' w2 hown' hgrow _;go_wp2
     go_roundw
     case rel=>exact ⟨2,by decide,by go_num,by rw[show Ck l1 l2 2=l1++l2 from rfl,List.length_append,QT,YO,tQ];exact hown',hbw.grown hgrow hbw.size (fun j hj=>(hown.lt j hj).1)⟩
     case measure=>simp[intOf]
    ·rw[show Ck l1 l2 2=l1++l2 from rfl] at hown;clear QT YO;go_wp2;go_ret;exact ⟨_,rfl,hown,hbw⟩
end
section
theorem iH (p:List UInt8) (ps:List (List UInt8)):au (p::ps)=p.length+au ps:=by simp[au]
def kJ:List (List UInt8)→Nat→Nat→List (List UInt8)
 | [],_,_=> []
 |p::ps,x,y=>if x<min p.length y then (p.take y).drop x::kJ ps (x-p.length) (y-p.length) else kJ ps (x-p.length) (y-p.length)
def qC:List (List UInt8)→Bool→Nat→Bool
 | [],_,_=>false
 |p::ps,s,x=>(decide (x=0)&&s)||(decide (p.length≤x)&&qC ps true (x-p.length))
def FB:List (List UInt8)→Bool→Nat→Bool
 | [],_,_=>false
 |p::ps,e,y=>(decide (y=p.length)&&(decide (0<ps.length)||e))||(decide (p.length≤y)&&FB ps e (y-p.length))
theorem Cm:∀(ps:List (List UInt8)) (x:Nat),kJ ps x 0= []
 | [],_=>rfl
 |p::ps,x=>by simp[kJ,Cm ps]
theorem tX:∀(ps:List (List UInt8)) (x y:Nat),(kJ ps x y).flatten=(ps.flatten.take y).drop x
 | [],_,_=>by simp[kJ]
 |p::ps,x,y=>by
  have ih:=tX ps (x-p.length) (y-p.length);rw[List.flatten_cons,List.take_append,List.drop_append,List.length_take];simp only[kJ];by_cases hx:x<min p.length y
  ·rw[if_pos hx,List.flatten_cons,ih]
   congr 1
   by_cases hy:p.length≤y
   ·rw[show x-min y p.length=x-p.length by omega]
   ·rw[show y-p.length=0 by omega];simp
  ·rw[if_neg hx,ih,List.drop_of_length_le (i:=x) (l:=p.take y) (by simp;omega)];by_cases hy:p.length≤y
   ·rw[show x-min y p.length=x-p.length by omega];simp
   ·rw[show y-p.length=0 by omega];simp
theorem yN (ps:List (List UInt8)) (x y:Nat) (h:y≤au ps):au (kJ ps x y)=y-x:=by
 rw[←iy,tX,List.length_drop,List.length_take,iy];omega
theorem yO:∀(ps:List (List UInt8)) (x y:Nat),∀q∈kJ ps x y,1≤q.length
 | [],_,_,q,hq=>by simp[kJ] at hq
 |p::ps,x,y,q,hq=>by
  simp only[kJ] at hq;by_cases hx:x<min p.length y
  ·rw[if_pos hx,List.mem_cons] at hq;rcases hq with rfl|hq
   ·simp;omega
   ·exact yO ps _ _ q hq
  ·rw[if_neg hx] at hq;exact yO ps _ _ q hq
theorem qD:∀(ps:List (List UInt8)) (x y:Nat),(kJ ps x y).length≤ps.length
 | [],_,_=>by simp[kJ]
 |p::ps,x,y=>by
  have:=qD ps (x-p.length) (y-p.length);simp only[kJ];split
  ·simp;omega
  ·simp;omega
theorem yP:∀(ps:List (List UInt8)) (x y:Nat),(∀i,i+1<ps.length→(ps[i]?.getD []).length≤2047)→∀i,i+1<(kJ ps x y).length→((kJ ps x y)[i]?.getD []).length≤2047
 | [],_,_,_,i,hi=>by simp[kJ] at hi
 |p::ps,x,y,h,i,hi=>by
  have hr:∀i,i+1<ps.length→(ps[i]?.getD []).length≤2047:=fun i hi=>by
   have:=h (i+1) (by simp;omega);simpa using this
  have ih:=yP ps (x-p.length) (y-p.length) hr;have hl:=qD ps (x-p.length) (y-p.length);simp only[kJ] at hi ⊢;by_cases hx:x<min p.length y
  ·rw[if_pos hx] at hi ⊢;cases i with
   |zero=>
    have:=h 0 (by simp at hi ⊢;omega);simp at this ⊢;omega
   |succ i=>
    have:=ih i (by simp at hi;omega);simpa using this
  ·rw[if_neg hx] at hi ⊢;exact ih i hi
theorem Kh (ps:List (List UInt8)) (x y:Nat) (h:x<y) (hy:y≤au ps):1≤(kJ ps x y).length:=by
 have:=yN ps x y hy;rcases Nat.eq_zero_or_pos (kJ ps x y).length with h0|h0
 ·rw[List.length_eq_zero_iff] at h0;rw[h0] at this;simp[au] at this;omega
 ·exact h0
theorem I5 (ps:List (List UInt8)) (x y:Nat) (hv:oJ ps) (h:x<y) (hy:y≤au ps):oJ (kJ ps x y):=
 ⟨Kh ps x y h hy,Nat.le_trans (qD ps x y) hv.hi,yO ps x y,yP ps x y hv.short,by rw[yN ps x y hy];have:=hv.sum;omega⟩
theorem K8:∀(ps:List (List UInt8)) (e:Bool),(∀p∈ps,1≤p.length)→FB ps e 0=false
 | [],_,_=>rfl
 |p::ps,e,hp=>by
  have hp1:=hp p (by simp);simp only[FB];rw[decide_eq_false (p:=0=p.length) (by omega),decide_eq_false (p:=p.length≤0) (by omega)];rfl
theorem DK (p:List UInt8) (ps:List (List UInt8)) (off fr till k:Nat):lC (p::ps) off fr till (k+1)=lC ps (off+p.length) fr till k:=by
 unfold lC;simp only[List.take_succ_cons,iH,Nat.add_assoc]
theorem DL (p:List UInt8) (ps:List (List UInt8)) (off fr till k:Nat):oM (p::ps) off fr till (k+1)=oM ps (off+p.length) fr till k:=by
 unfold oM;simp only[List.take_succ_cons,iH,Nat.add_assoc,List.getElem?_cons_succ]
theorem rC (p:List UInt8) (ps:List (List UInt8)) (off fr till:Nat):∀k,aD (p::ps) off fr till (k+1)=(if lC (p::ps) off fr till 0 then [oM (p::ps) off fr till 0] else [])++aD ps (off+p.length) fr till k
 |0=>by
  simp only[aD];split<;>simp
 |k+1=>by
  have ih:=rC p ps off fr till k;rw[aD,ih,DK,DL]
  conv=>rhs;rw[aD]
  split<;>split<;>simp
theorem kz:∀(ps:List (List UInt8)) (off fr till:Nat),aD ps off fr till ps.length=kJ ps (fr-off) (till-off)
 | [],_,_,_=>rfl
 |p::ps,off,fr,till=>by
  have ih:=kz ps (off+p.length) fr till;rw[List.length_cons,rC,ih,kJ,show fr-(off+p.length)=fr-off-p.length by omega,show till-(off+p.length)=till-off-p.length by omega];have hh:lC (p::ps) off fr till 0=decide (fr-off<min p.length (till-off)):=by
   unfold lC;simp only[List.take_zero,List.take_succ_cons,iH,xW];rw[Bool.eq_iff_iff];simp only[decide_eq_true_eq];omega
  rw[hh];by_cases hx:fr-off<min p.length (till-off)
  ·rw[if_pos (by simpa using hx),if_pos hx,List.singleton_append]
   congr 1
   unfold oM;simp only[List.take_zero,List.take_succ_cons,iH,xW,List.getElem?_cons_zero,Option.getD_some,Nat.add_zero];rw[List.take_drop,show max off fr-off=fr-off by omega]
   congr 1
   by_cases h1:p.length≤till-off
   ·rw[List.take_of_length_le (by omega),List.take_of_length_le h1]
   ·congr 1;omega
  ·rw[if_neg (by simpa using hx),if_neg hx,List.nil_append]
theorem qE (p:List UInt8) (ps:List (List UInt8)) (s:Bool) (off fr:Nat):∀k,aM (p::ps) s off fr (k+1)=((decide (off=fr)&&s)||aM ps true (off+p.length) fr k)
 |0=>by simp[aM,au]
 |k+1=>by
  rw[aM,qE p ps s off fr k]
  conv=>rhs;rw[aM]
  simp only[List.take_succ_cons,iH,Nat.add_assoc,Bool.or_assoc,Nat.zero_lt_succ,decide_true,Bool.true_or,Bool.or_true,Bool.and_true]
theorem nU:∀(ps:List (List UInt8)) (s:Bool) (off fr:Nat),aM ps s off fr ps.length=(decide (off≤fr)&&qC ps s (fr-off))
 | [],_,_,_=>by simp[aM,qC]
 |p::ps,s,off,fr=>by
  rw[List.length_cons,qE,nU ps true (off+p.length) fr];simp only[qC];rw[show fr-(off+p.length)=fr-off-p.length by omega];by_cases h:off≤fr
  ·rw[show decide (off≤fr)=true by simpa using h,show decide (off=fr)=decide (fr-off=0) by rw[Bool.eq_iff_iff];simp;omega,show decide (off+p.length≤fr)=decide (p.length≤fr-off) by rw[Bool.eq_iff_iff];simp;omega];simp
  ·rw[show decide (off≤fr)=false by simpa using h,show decide (off=fr)=false by simp;omega,show decide (off+p.length≤fr)=false by simp;omega];simp
theorem tY (p:List UInt8) (ps:List (List UInt8)) (e:Bool) (off till:Nat):∀k,bI (p::ps) e off till (k+1)=((decide (off+p.length=till)&&(decide (0<ps.length)||e))||bI ps e (off+p.length) till k)
 |0=>by simp[bI,au]
 |k+1=>by
  rw[bI,tY p ps e off till k]
  conv=>rhs;rw[bI]
  simp only[List.take_succ_cons,iH,Nat.add_assoc,Bool.or_assoc,List.length_cons];rw[show decide (k+(1+1)<ps.length+1)=decide (k+1<ps.length) by rw[Bool.eq_iff_iff];simp only[decide_eq_true_eq];omega]
theorem tZ:∀(ps:List (List UInt8)) (e:Bool) (off till:Nat),bI ps e off till ps.length=(decide (off≤till)&&FB ps e (till-off))
 | [],_,_,_=>by simp[bI,FB]
 |p::ps,e,off,till=>by
  rw[List.length_cons,tY,tZ ps e (off+p.length) till];simp only[FB];rw[show till-(off+p.length)=till-off-p.length by omega];by_cases h:off≤till
  ·rw[show decide (off≤till)=true by simpa using h,show decide (off+p.length=till)=decide (till-off=p.length) by rw[Bool.eq_iff_iff];simp;omega,show decide (off+p.length≤till)=decide (p.length≤till-off) by rw[Bool.eq_iff_iff];simp;omega];simp
  ·rw[show decide (off≤till)=false by simpa using h,show decide (off+p.length=till)=false by simp;omega,show decide (off+p.length≤till)=false by simp;omega];simp
theorem DN (ps:List (List UInt8)) (off a d:Nat) (h0:off≤a) (h4:d≤off+au ps):au (aD ps off a d ps.length)=d-a:=by
 rw[kz,yN _ _ _ (by omega)];omega
theorem vz (ps:List (List UInt8)) (off a d:Nat) (hv:oJ ps) (h0:off≤a) (h1:a<d) (h4:d≤off+au ps):oJ (aD ps off a d ps.length):=by
 rw[kz];exact I5 ps _ _ hv (by omega) (by omega)
end
section
open Go.RowKit
section
variable {D F D' F':Nat→Prop} {g:Nat} {c:Cf} {st st':Sd} {vq vo:Value} {vs os:List Value} {w w' w'':World}
theorem Aa.sets {A:Option Addr} (h:Aa F D A) (hf:∀k,F k→F' k) (hn:∀k,F k→¬D k→¬D' k):Aa F' D' A:=fun ad e=>⟨hf _ (h ad e).1,hn _ (h ad e).1 (h ad e).2⟩
theorem gK.sets {p:Nat} {x:Ou} {Ap Ar:Option Addr} {cp cr:Nat} {vp:List Value} (h:gK w D F p x Ap cp vp Ar cr) (hd:∀k,D k→D' k) (hf:∀k,F k→F' k) (hn:∀k,F k→¬D k→¬D' k):gK w D' F' p x Ap cp vp Ar cr:=
 ⟨h.blk,hd p h.d,hf p h.f,h.ps,h.pf.sets hf hn,fun i v hv=>(h.pe i v hv).sets hf hn,h.rs,h.rf.sets hf hn⟩
theorem aA.off {a b:Nat} {t u:TypeId} {cs ds:Array Value} (h:aA w a t cs) (h':aA w b u ds) (hne:t≠u):a≠b:=fun e=>by
 subst e;unfold aA at h h';rw[h] at h';injection h' with h3
 injection h3 with _ h4
 exact hne h4
theorem dY.YP (h:dY w D F g c st vq vs vo os):aL vq≠some g∧aL vo≠some g:=⟨h.qr.qw h.blk (by decide),h.nR.qw h.blk (by decide)⟩
theorem dY.qne (h:dY w D F g c st vq vs vo os) (k:Nat) (hq:aL vq=some k):aL vo≠some k:=fun ho=>by
 obtain ⟨c1,h1,_⟩:=h.qr.row hq;obtain ⟨c2,h2,_⟩:=h.nR.row ho;rw[h1] at h2;injection h2 with h3
 injection h3 with _ h4
 exact absurd h4 (by decide)
theorem dY.oes (h:dY w D F g c st vq vs vo os) (hk:∀k,F k→k≠g→aL vq≠some k→aL vo≠some k→w'.heap[k]? =w.heap[k]?):
 ∀(i:Nat) (x:Ou),st.out[i]? =some x→∃p Ap cp vp Ar cr,os[i]? =some (.pointer (some ⟨p,0,none⟩))∧gK w' D F p x Ap cp vp Ar cr:=fun i x hx=>by
 obtain ⟨p,Ap,cp,vp,Ar,cr,e,ho⟩:=h.oe i x hx;have nd:∀{A:Option Addr},Aa F D A→∀ad,A=some ad→w'.heap[ad.block]? =w.heap[ad.block]? :=fun hi ad ea=>hk _ (hi ad ea).1 (fun e2=>(hi ad ea).2 (by rw[e2];exact h.gd)) (fun e2=>(hi ad ea).2 (h.qd _ e2)) (fun e2=>(hi ad ea).2 (h.od _ e2))
 have hp:w'.heap[p]? =w.heap[p]? :=hk p ho.f (fun e2=>ho.blk.off h.blk (by decide) e2) (h.qr.qw ho.blk (by decide)) (h.nR.qw ho.blk (by decide));exact ⟨p,Ap,cp,vp,Ar,cr,e,hp.trans ho.blk,ho.d,ho.f,ho.ps.stay (nd ho.pf) (fun i v ad hv ea=>nd (ho.pe i v hv) ad ea),ho.pf,ho.pe,ho.rs.stay (nd ho.rf),ho.rf⟩
theorem dY.qes (h:dY w D F g c st vq vs vo os) (hk:∀k,F k→k≠g→aL vq≠some k→aL vo≠some k→w'.heap[k]? =w.heap[k]?):
 ∀(i:Nat) (p:List UInt8),st.queue[i]? =some p→∃A cc,vs[i]? =some (.slice A p.length cc)∧Sl w' w'.heap.size A p.length cc (cu p)∧Aa F D A:=fun i p hp=>by
 obtain ⟨A,cc,e,hs,hf⟩:=h.qe i p hp;exact ⟨A,cc,e,hs.stay (fun ad ea=>hk _ (hf ad ea).1 (fun e2=>(hf ad ea).2 (by rw[e2];exact h.gd)) (fun e2=>(hf ad ea).2 (h.qd _ e2)) (fun e2=>(hf ad ea).2 (h.od _ e2))),hf⟩
theorem dY.rG (h:dY w D F g c st vq vs vo os) {w1 w5:World} {x:List UInt8} {A1 A5:Option Addr} {c1 c5:Nat} (hn:1≤x.length) (hb1:Below w.heap.size w w1) (hx:w1.ownsRow w.heap.size 5 1 (.slice A1 x.length c1) x.length (cu x))
 (hq:dA w5 0 22 (.slice A5 (st.queue.length+1) c5) (st.queue.length+1) (vs++ [.slice A1 x.length c1])) (hg:(w1.alloc (.cells #[.slice A1 x.length c1] 22)).grownBy w5 (aL vq))
 (QK:∀k,aL (.slice A5 (st.queue.length+1) c5)=some k→aL vq=some k∨(w1.alloc (.cells #[.slice A1 x.length c1] 22)).heap.size≤k):
 lZ w D F g c (gI st x) (w5.setCell ⟨g,7,none⟩ (.slice A5 (st.queue.length+1) c5)):=by
 have hz1:=hb1.size;have Xp:(w1.alloc (.cells #[.slice A1 x.length c1] 22)).heap.size=w1.heap.size+1:=World.size_alloc _ _;have hgl:=h.blk.lt;have hgA:=(h.blk.below hb1 hgl).alloc (.cells #[.slice A1 x.length c1] 22);have hg5:=hgA.grown hg (fun e=>h.YP.1 e.symm);have QC:=hg5.aC 7 (.slice A5 (st.queue.length+1) c5);obtain ⟨A0,c0,ev,hsl,hA1⟩:=aP hx;cases ev;have yQ:=hg.size;have hh:∀k,k<w.heap.size→k≠g→aL vq≠some k→(w5.setCell ⟨g,7,none⟩ (.slice A5 (st.queue.length+1) c5)).heap[k]? =w.heap[k]? :=fun k hk hkg hkq=>by
  rw[fB (show k≠(⟨g,7,none⟩:Addr).block from hkg),hg.block k (by omega) (fun e=>hkq e.symm),Below.heap_alloc _ _ k (by omega),hb1.block k hk]
 have NJ:∀k,F k→k≠g→aL vq≠some k→aL vo≠some k→(w5.setCell ⟨g,7,none⟩ (.slice A5 (st.queue.length+1) c5)).heap[k]? =w.heap[k]? :=fun k hf h1 h2 _=>hh k (h.lt k hf) h1 h2
 obtain ⟨ad,rfl,e2⟩:=hA1 hn;have e4:ad.block<w1.heap.size:=by
  obtain ⟨aj3,e3,e4,_⟩:=hsl.at_ hn;cases e3;exact e4
 have MH:(w5.setCell ⟨g,7,none⟩ (.slice A5 (st.queue.length+1) c5)).heap.size=w5.heap.size:=by simp[World.setCell]
 have Xn:=hq.store hg5 (by decide) (i:=7) (.slice A5 (st.queue.length+1) c5);have yR:∀k,aL (.slice A5 (st.queue.length+1) c5)=some k→D k∨w1.heap.size+1≤k:=fun k hk=>by
  rcases QK k hk with e|e
  ·exact .inl (h.qd k e)
  ·exact .inr (by omega)
 have hnn:∀k,F k→¬D k→¬(D k∨aL (.slice A5 (st.queue.length+1) c5)=some k):=fun k hf hd e=>by
  rcases e with e|e
  ·exact hd e
  ·rcases yR k e with e|e
   ·exact hd e
   ·have:=h.lt k hf;omega
 refine ⟨fun k=>D k∨aL (.slice A5 (st.queue.length+1) c5)=some k,fun k=>F k∨aL (.slice A5 (st.queue.length+1) c5)=some k∨k=ad.block,.slice A5 (st.queue.length+1) c5,vs++ [.slice (some ad) x.length c1],vo,os,⟨?_,.inl h.gd,?_,?_,?_,fun k hk=> .inr hk,?_,?_,fun k hk=> .inl (h.od k hk),?_,h.inj⟩,?_,?_,?_⟩
 ·exact QC
 ·rintro k (hk|hk)
  ·exact .inl (h.sub k hk)
  ·exact .inr (.inl hk)
 ·rintro k (hk|hk|rfl)
  ·have:=h.lt k hk;omega
  ·exact (Xn.lt hk).2
  ·omega
 ·have hl:(gI st x).queue.length=st.queue.length+1:=by simp[gI]
  rw[hl];exact Xn
 ·intro i p hi;have hi':(st.queue++ [x])[i]? =some p:=hi;rcases Nat.lt_or_ge i st.queue.length with hlt|hge
  ·rw[List.getElem?_append_left hlt] at hi';obtain ⟨A,cc,k1,k2,k3⟩:=h.qes NJ i p hi';exact ⟨A,cc,by rw[List.getElem?_append_left (by rw[h.qr.1];exact hlt)];exact k1,k2,k3.sets (fun k hk=> .inl hk) hnn⟩
  ·have hi0:i=st.queue.length:=by
    have:=(List.getElem?_eq_some_iff.1 hi').1;simp at this;omega
   subst hi0;simp at hi';subst hi';refine ⟨some ad,c1,by rw[←h.qr.1];simp,hsl.stay fun wM e=> ?_,fun wM e=> ?_⟩
   ·cases e;rw[fB (show ad.block≠(⟨g,7,none⟩:Addr).block by show ad.block≠g;omega),hg.block _ (by omega) (fun e=>by
     have:=(h.qr.lt e.symm).2;omega),Below.heap_alloc _ _ _ (by omega)]
   ·cases e;refine ⟨.inr (.inr rfl),?_⟩;rintro (hd|hd)
    ·have:=h.lt _ (h.sub _ hd);omega
    ·rcases QK _ hd with e|e
     ·have:=(h.qr.lt e).2;omega
     ·omega
 ·exact h.nR.keep fun k hk=>hh k (h.nR.lt hk).2 (fun e=>h.YP.2 (by rw[←e];exact hk)) (fun e=>h.qne k e hk)
 ·intro i y hi;obtain ⟨p,Ap,cp,vp,Ar,cr,k1,k2⟩:=h.oes NJ i y hi;exact ⟨p,Ap,cp,vp,Ar,cr,k1,k2.sets (fun k hk=> .inl hk) (fun k hk=> .inl hk) hnn⟩
 ·rintro k (hk|hk)
  ·exact .inl hk
  ·rcases yR k hk with e|e
   ·exact .inl e
   ·exact .inr (by omega)
 ·rintro k (hk|hk|rfl)
  ·exact .inl hk
  ·rcases yR k hk with e|e
   ·exact .inl (h.sub k e)
   ·exact .inr (by omega)
  ·exact .inr e2
 ·have hk1:Kept (fun k _=>D k) w w1:=(Kept.of_below hb1).gX fun k o ho hm=>by have:=lt_of_heap ho;omega
  exact ((hk1.alloc _).grown hg (fun k hk o ho=>h.qd k hk)).setCell (p:=⟨g,7,none⟩) (fun _ _=>h.gd) _
end
end
section
open Go.RowKit Go.Shelf
attribute [local go_sem] Oper.semAt_some
def QU:Option Pu→List UInt8
 |none=> []
 |some p=>nC p.sn p.poll p.seg p.last p.off p.s p.e p.ps
theorem oU {x:Ou} (h:AP x):eP (x.sn:Nat) false false 0 x.ps=true:=by
 have h1:=h.sn;have h2:=(fK x.ps).2 h.ps;simp[eP,l8,h2];omega
section
variable {D F:Nat→Prop} {g:Nat} {c:Cf} {st:Sd} {vq vo:Value} {vs os:List Value} {w:World}
theorem cZ.two {ar:Addr} {n cr:Nat} {r:Nat × Nat} {t:List (Nat × Nat)} (h:cZ w (some ar) n cr (r::t)):w.cell? ar=some (.int .i64 (r.1:Nat))∧w.cell? ⟨ar.block,ar.off+1,none⟩=some (.int .i64 (r.2:Nat)):=by
 have hl:=h.len;simp at hl;obtain ⟨wM,e,hb,hc⟩:=h.at_ (by omega);cases e;have:=hc 0 r rfl;simpa[Addr.add] using this
theorem gK.FC {p:Nat} {x:Ou} {Ap Ar:Option Addr} {cp cr:Nat} {vp:List Value} {w':World} (h:gK w D F p x Ap cp vp Ar cr) (hF:∀k,F k→k<w.heap.size) (hk:Kept (fun k _=>D k) w w'):gD w' w'.heap.size Ap x.ps.length cp vp x.ps:=by
 have nd:∀{A:Option Addr},Aa F D A→∀ad,A=some ad→w'.heap[ad.block]? =w.heap[ad.block]? :=fun hi ad e=>by
  have hlt:=hF _ (hi ad e).1;have h1:w.heap[ad.block]? =some w.heap[ad.block]:=Array.getElem?_eq_getElem hlt;rw[h1];exact hk.same _ _ h1 (hi ad e).2
 exact h.ps.stay (nd h.pf) (fun i v ad hv e=>nd (h.pe i v hv) ad e)
theorem aN.FC {base:Nat} {A:Option Addr} {cc:Nat} {ps:List (List UInt8)} (h:aN w base (.slice A ps.length cc) ps) (hD:∀k,D k→k<base):∃vl,∀w',Kept (fun k _=>D k) w w'→gD w' w'.heap.size A ps.length cc vl ps:=by
 obtain ⟨vl,h1,h2⟩:=h;refine ⟨vl,fun w' hk=>⟨dZ (kH h1 hk fun k o hr hb hd=> ?_),rfl,fun i q hi=> ?_⟩⟩
 ·have:=(h1.lt k hb).1;have:=hD k hd;omega
 ·obtain ⟨A',c',e,ho⟩:=h2 i q hi;exact ⟨A',c',e,dZ (kH ho hk fun k o hr hb hd=>by
   have:=(ho.lt k hb).1;have:=hD k hd;omega)⟩
def oV (w0:World) (x:Ou) (fr j:Nat) (wr:World):Prop:=
 Below w0.heap.size w0 wr∧((j=fr∧aA wr w0.heap.size 72 (aY 0 false false false 0 false false none 0 0))∨
  (fr<j∧∃A cc,aA wr w0.heap.size 72 (aY (x.sn:Nat) false true (decide (j=ay x)) (fr:Nat) (aM x.ps x.s 0 fr x.ps.length) (bI x.ps x.e 0 j x.ps.length) A (aD x.ps 0 fr j x.ps.length).length cc)∧
   aN wr w0.heap.size (.slice A (aD x.ps 0 fr j x.ps.length).length cc) (aD x.ps 0 fr j x.ps.length)))
theorem aN.vB {base:Nat} {v:Value} {ps:List (List UInt8)} {w':World} (h:aN w base v ps) (hb:Below w.heap.size w w'):aN w' base v ps:=by
 obtain ⟨vl,h1,h2⟩:=h;exact ⟨vl,own_below h1 hb (Nat.le_refl _),fun i q hi=>let ⟨A,c,e,ho⟩:=h2 i q hi;⟨A,c,e,own_below ho hb (Nat.le_refl _)⟩⟩
theorem oV.below {w0 wr w':World} {x:Ou} {fr j:Nat} (h:oV w0 x fr j wr) (hb:Below wr.heap.size wr w'):oV w0 x fr j w':=by
 obtain ⟨h1,h2⟩:=h;refine ⟨h1.trans (hb.mono h1.size),?_⟩;rcases h2 with ⟨e,k⟩|⟨e,A,cc,k1,k2⟩
 ·exact .inl ⟨e,k.below hb k.lt⟩
 ·exact .inr ⟨e,A,cc,k1.below hb k1.lt,k2.vB hb⟩
theorem oV.put {w0 wr w3:World} {x:Ou} {fr j m:Nat} {A:Option Addr} {cc:Nat} (h:oV w0 x fr j wr) (hb:Below wr.heap.size wr w3) (hm:fr<m)
 (hp:aN w3 w0.heap.size (.slice A (aD x.ps 0 fr m x.ps.length).length cc) (aD x.ps 0 fr m x.ps.length)):
 oV w0 x fr m ((((((((w3.setCell ⟨w0.heap.size,0,none⟩ (.int .i64 (x.sn:Nat))).setCell ⟨w0.heap.size,1,none⟩ (.bool false)).setCell ⟨w0.heap.size,2,none⟩ (.bool true)).setCell ⟨w0.heap.size,3,none⟩ (.bool (decide (m=ay x)))).setCell ⟨w0.heap.size,4,none⟩ (.int .i64 (fr:Nat))).setCell ⟨w0.heap.size,5,none⟩ (.bool (aM x.ps x.s 0 fr x.ps.length))).setCell ⟨w0.heap.size,6,none⟩ (.bool (bI x.ps x.e 0 m x.ps.length))).setCell ⟨w0.heap.size,7,none⟩ (.slice A (aD x.ps 0 fr m x.ps.length).length cc)):=by
 have h3:=h.below hb;obtain ⟨u0,u1,u2,u3,u4,u5,u6,u7,hbk⟩:∃u0 u1 u2 u3 u4 u5 u6 u7,aA w3 w0.heap.size 72 #[u0,u1,u2,u3,u4,u5,u6,u7]:=by
  rcases h3.2 with ⟨e,k⟩|⟨e,A,cc,k1,k2⟩
  ·exact ⟨_,_,_,_,_,_,_,_,k⟩
  ·exact ⟨_,_,_,_,_,_,_,_,k1⟩
 have k0:=hp.store (i:=0) hbk (by decide) (by decide) (.int .i64 (x.sn:Nat));have k1:=k0.store (i:=1) (hbk.aC 0 _) (by decide) (by decide) (.bool false);have k2:=k1.store (i:=2) ((hbk.aC 0 _).aC 1 _) (by decide) (by decide) (.bool true);have k3:=k2.store (i:=3) (((hbk.aC 0 _).aC 1 _).aC 2 _) (by decide) (by decide) (.bool (decide (m=ay x)));have k4:=k3.store (i:=4) ((((hbk.aC 0 _).aC 1 _).aC 2 _).aC 3 _) (by decide) (by decide) (.int .i64 (fr:Nat));have k5:=k4.store (i:=5) (((((hbk.aC 0 _).aC 1 _).aC 2 _).aC 3 _).aC 4 _) (by decide) (by decide) (.bool (aM x.ps x.s 0 fr x.ps.length));have k6:=k5.store (i:=6) ((((((hbk.aC 0 _).aC 1 _).aC 2 _).aC 3 _).aC 4 _).aC 5 _) (by decide) (by decide) (.bool (bI x.ps x.e 0 m x.ps.length));have k7:=k6.store (i:=7) (((((((hbk.aC 0 _).aC 1 _).aC 2 _).aC 3 _).aC 4 _).aC 5 _).aC 6 _) (by decide) (by decide) (.slice A (aD x.ps 0 fr m x.ps.length).length cc);exact ⟨iG h3.1 (Nat.le_refl _) _ _ _ _ _ _ _ _,.inr ⟨hm,A,cc,hbk.Ba _ _ _ _ _ _ _ _,k7⟩⟩
theorem mW {w0 wc w5:World} {i p bb base:Nat} {x:Ou} {Ap Ar Ac:Option Addr} {cp cr cc:Nat} {vp:List Value} {l:List (Nat × Nat)} {v5:Value} {sn fr:Nat} {la s e:Bool} {CP:List (List UInt8)}
 (hA:dY wc D F g c st vq vs vo os) (hk:Kept (fun k _=>D k) w0 wc) (hx:st.out[i]? =some x) (hp:os[i]? =some (.pointer (some ⟨p,0,none⟩))) (hO:gK wc D F p x Ap cp vp Ar cr)
 (hbb:aA wc bb 72 (aY (sn:Nat) false true la (fr:Nat) s e Ac CP.length cc)) (hpo:aN wc bb (.slice Ac CP.length cc) CP)
 (hb5:Below wc.heap.size wc w5) (hv5:w5.ownsRow base 99 2 v5 l.length (mV l)) (hbase:wc.heap.size≤base):
 ∃F' A5 c5,v5= .slice A5 l.length c5∧dY (w5.setCell ⟨p,10,none⟩ (.slice A5 l.length c5)) D F' g c (kr st i x l) vq vs vo os∧dX w0 F F'∧Kept (fun k _=>D k) w0 (w5.setCell ⟨p,10,none⟩ (.slice A5 l.length c5))∧
  aA (w5.setCell ⟨p,10,none⟩ (.slice A5 l.length c5)) bb 72 (aY (sn:Nat) false true la (fr:Nat) s e Ac CP.length cc)∧aN (w5.setCell ⟨p,10,none⟩ (.slice A5 l.length c5)) bb (.slice Ac CP.length cc) CP:=by
 obtain ⟨A5,c5,rfl,hsp,Ht⟩:=cZ.cO hv5;have hz:=hk.size;have h5:=(hA.below hb5).Ff (F':=fun k=>F k∨∃ad,A5=some ad∧k=ad.block) (fun _=> .inl) (fun k hk=>by
  rcases hk with hk|⟨ad,e,rfl⟩
  ·exact (hA.below hb5).lt k hk
  ·exact (Ht ad e).2)
 have uf:=(hO.stay (w':=w5) fun k hk=>hb5.block k (hA.lt k hk)).Ff (F':=fun k=>F k∨∃ad,A5=some ad∧k=ad.block) (fun _=> .inl);obtain ⟨h6,yS⟩:=h5.IA hx hp uf 10 (.slice A5 l.length c5) (z:= {x with pend:=l}) (J8:=A5) (KU:=c5) rfl rfl hsp (fun ad e=>⟨.inr ⟨ad,e,rfl⟩,fun hd=>by
  have h1:=(Ht ad e).1;have h2:=hA.lt _ (hA.sub _ hd);omega⟩)
 have hk5:Kept (fun k _=>D k) w0 w5:=hk.trans ((Kept.of_below hb5).gX fun k o ho hm=>by have:=lt_of_heap ho;omega);refine ⟨_,A5,c5,rfl,h6,fun k hk'=> ?_,hk5.setCell (p:=⟨p,10,none⟩) (fun _ _=>hO.d) _,(hbb.below hb5 hbb.lt).far (p:=⟨p,10,none⟩) (hbb.off hO.blk (by decide)) _,(hpo.vB hb5).store uf.blk (by decide) (by decide) _⟩;rcases hk' with hk'|⟨ad,e,rfl⟩
 ·exact .inl hk'
 ·have:=(Ht ad e).1;exact .inr (by omega)
theorem cZ.Ty {ar:Addr} {n cr:Nat} {r:Nat × Nat} {l:List (Nat × Nat)} (h:cZ w (some ar) (n+1) cr (r::l)) (hc:¬cr=1):cZ w (some ⟨ar.block,ar.off+2,none⟩) n (cr-1) l:=by
 have:=h.tail;rw[if_neg hc] at this;simpa[Addr.add] using this
set_option maxRecDepth 100000 in
set_option maxHeartbeats 4000000 in
theorem I6 (h:dY w D F g c st vq vs vo os) {K:Nat} (hB:jL st K) (hw:st.out.length≤512) (hf:st.first<1024) {i p:Nat} {x:Ou} {Ap Ar:Option Addr} {cp cr:Nat} {vp:List Value} (hx:st.out[i]? =some x) (hp:os[i]? =some (.pointer (some ⟨p,0,none⟩))) (hO:gK w D F p x Ap cp vp Ar cr) (hpe:x.pend≠ [])
 (n:Int) (hn:0≤n) (hn2:n≤9223372036854775807):
 Calls Tryz.prog 103 #[.pointer (some ⟨g,0,none⟩),.pointer (some ⟨p,0,none⟩),.int .i64 n] w (DJ w D F g c (iD c n st i x).1 (QU (iD c n st i x).2)):=by
 obtain ⟨⟨fr,e0⟩,rest,Tx⟩:=List.exists_cons_of_ne_nil hpe;have hok:=hB.ou x (List.mem_of_getElem? hx);have hsz:=gV hok;have hr:=hok.pr (fr,e0) (by rw[Tx];simp);have hpl:=hok.pl;dsimp only at hr;obtain ⟨R,hR⟩:∃R,iD c n st i x=R:=⟨_,rfl⟩
 rw[hR];have HR:=Lib.hid hR;obtain ⟨x0,x7,x8,x9,x10,uZ⟩:=hO.cells;have hrs:=hO.rs;have hlen:x.pend.length=rest.length+1:=by rw[Tx];rfl
 rw[hlen] at x10 hrs;rw[Tx] at hrs;obtain ⟨ar,har,_,_⟩:=hrs.at_ (by omega);subst har;obtain ⟨s0,s1⟩:=hrs.two;dsimp only at s0 s1;have hcr:=hrs.cap;have YQ:=hrs.mx;have hpc:=hO.ps.sl.cap;have hpm:=hO.ps.sl.mx;have HH:=Lib.hid h;have HX:=Lib.hid hx;have HP:=Lib.hid hp;have HO:=Lib.hid hO;have YR:=Lib.hid Tx;have Xq:=Lib.hid hrs;have HB:=Lib.hid hB;clear h hx hp hO Tx hrs hB hR hlen hpe;go_enter Tryz.func103,Tryz.ntmps103;go_wp2
 go_quiet (fail)
 go_wp2_with fail;have hA1:=HH.out.drewN nq;have K9:=HO.out.drewN nq;have YS:=Xq.out.drewN nq;have hk1:Kept (fun k _=>D k) w (w.drewN nq):=(Kept.refl _ w).iA nq;clear s0 s1 x0 x7 x8 x9 x10 uZ;generalize w.drewN nq=w1 at*;obtain ⟨x0,x7,x8,x9,x10,uZ⟩:=K9.cells;obtain ⟨x1,x2,x3,x4,x5,x6⟩:=(show w1.cell? ⟨p,1,none⟩=some (.bool false)∧w1.cell? ⟨p,2,none⟩=some (.bool false)∧w1.cell? ⟨p,3,none⟩=some (.bool false)∧w1.cell? ⟨p,4,none⟩=some (.int .i64 0)∧w1.cell? ⟨p,5,none⟩=some (.bool x.s)∧w1.cell? ⟨p,6,none⟩=some (.bool x.e) from
  ⟨K9.blk.cell 1,K9.blk.cell 2,K9.blk.cell 3,K9.blk.cell 4,K9.blk.cell 5,K9.blk.cell 6⟩)
 have f10:=K9.blk.frozen 10;have hlen:x.pend.length=rest.length+1:=by rw[YR.out];rfl
 rw[hlen] at x10;have HA1:=Lib.hid hA1;have HO1:=Lib.hid K9;have ad5:=Lib.hid YS;have sH:=Lib.hid hk1;have iM:=Lib.hid hlen;clear hA1 K9 YS hk1 hlen HH HO Xq hcr YQ;have ahC:x.ps.length≤64:=hok.ps.hi;have hhd:=fun (W:World)=>qy (x.ps.length:Int) false W ⟨by omega,by omega⟩
 have hhb:=xD (x.ps.length:Int);simp only[yL] at hhd;generalize hhh:gW (x.ps.length:Int)=hd at*;have Tt:=Lib.hid hhd;have HHH:=Lib.hid hhh;have hsum:IntKind.i64.wrap (hd+(ay x:Nat))=hd+(ay x:Nat):=IntWalk.i64_in _ (by omega);clear hhd hhh;obtain ⟨b1,hb1⟩:∃b1,b1=decide (fr=0∧e0+1=ay x∧hd+(ay x:Int)≤n):=⟨_,rfl⟩
 have HB1:=Lib.hid hb1;clear hb1;go_cut [55] (fun s55 wx=>s55= .bool b1∧∃q,wx=w1.drewN q)
 case first=>
  have hb:=HB1.out;by_cases h1:fr=0
  ·have d1:((fr:Int)==0)=true:=by simp;omega
   by_cases h2:e0+1=ay x
   ·have d2:((e0:Int)+1==(ay x:Int))=true:=by simp;omega
    by_cases h3:hd+(ay x:Int)≤n
    ·have d3:decide (hd+(ay x:Int)≤n)=true:=decide_eq_true h3;have e1:b1=true:=by rw[hb];exact decide_eq_true ⟨h1,h2,h3⟩
     subst e1;have H1:=Lib.hid h1;have H2:=Lib.hid h2;clear h1 h2 hb;go_wp2
     go_quiet ((go_at_call 144;exact Calls.quiet_of_same ((Tt.out _).mono fun _ _ hh=>⟨hh.1,hh.2.symm⟩)))
     go_wp2;go_meet;exact ⟨rfl,_,rfl⟩
    ·have d3:decide (hd+(ay x:Int)≤n)=false:=decide_eq_false h3;have e1:b1=false:=by rw[hb];exact decide_eq_false (by omega)
     subst e1;have H1:=Lib.hid h1;have H2:=Lib.hid h2;clear h1 h2 hb;go_wp2
     go_quiet ((go_at_call 144;exact Calls.quiet_of_same ((Tt.out _).mono fun _ _ hh=>⟨hh.1,hh.2.symm⟩)))
     go_wp2;go_meet;exact ⟨rfl,_,rfl⟩
   ·have d2:((e0:Int)+1==(ay x:Int))=false:=by simp;omega
    have e1:b1=false:=by rw[hb];exact decide_eq_false (by omega)
    subst e1;have H1:=Lib.hid h1;clear h1 hb;go_wp2
    go_quiet (fail)
    go_wp2;go_meet;exact ⟨rfl,_,rfl⟩
  ·have d1:((fr:Int)==0)=false:=by simp;omega
   have e1:b1=false:=by rw[hb];exact decide_eq_false (by omega)
   subst e1;clear hb;go_wp2
   go_quiet (fail)
   go_wp2;go_meet;exact ⟨rfl,_,rfl⟩
 case rest=>
 obtain ⟨rfl,q,rfl⟩:=hcut;have hA2:=HA1.out.drewN q;have hO2:=HO1.out.drewN q;have Vf:=ad5.out.drewN q;have hk2:=sH.out.iA q;clear x0 x1 x2 x3 x4 x5 x6 x7 x8 x9 x10 uZ f10;generalize w1.drewN q=w2 at*;have HA2:=Lib.hid hA2;have NK:=Lib.hid hO2;have ad6:=Lib.hid Vf;have uW:=Lib.hid hk2;have hgl:w.heap.size≤w2.heap.size:=hk2.size;have hdl:∀k,D k→k<w2.heap.size:=fun k hd=>hA2.lt k (hA2.sub k hd)
 have wh:=Lib.hid hdl;by_cases hcond:fr=0∧e0+1=ay x∧hd+(ay x:Int)≤n
 ·have e1:b1=true:=by rw[HB1.out];exact decide_eq_true hcond
  subst e1;have hRe:R=((aR c (kr st i x []) false).1,some ⟨x.sn,(aR c (kr st i x []) false).2,false,false,0,x.s,x.e,x.ps⟩):=by
   rw[←HR.out];unfold iD;rw[YR.out];dsimp only;rw[if_pos (by rw[HHH.out];exact hcond)]
  have NM:=Lib.hid hRe;clear hRe HR hcond hdl;obtain ⟨hA3,hO3⟩:=hA2.IA HX.out HP.out hO2 10 (.slice none 0 0) (z:= {x with pend:= []}) (J8:=none) (KU:=0) rfl rfl (cZ.nil _) (fun ad e=>by cases e);have hk3:=hk2.setCell (p:=⟨p,10,none⟩) (fun _ _=>hO2.d) (.slice none 0 0);have f10:=hO2.blk.frozen 10;have x10:=hO2.blk.cell 10;simp[uN] at x10;clear hA2 hO2 Vf hk2;have hps:=fun w' hk=>hO3.FC (w':=w') hA3.lt hk
  have hB2:=HB.out;have hfi:Calls Tryz.prog 105 #[.pointer (some ⟨g,0,none⟩),.agg #[.int .i64 (x.sn:Nat),.bool false,.bool false,.bool false,.int .i64 0,.bool x.s,.bool x.e,.slice Ap x.ps.length cp],.bool false] (w2.setCell ⟨p,10,none⟩ (.slice none 0 0)) (DJ (w2.setCell ⟨p,10,none⟩ (.slice none 0 0)) D F g c (aR c (kr st i x []) false).1 (nC x.sn (aR c (kr st i x []) false).2 false false 0 x.s x.e x.ps)):=
   jm hA3 hB2.held (by show (st.out.set i _).length≤512;rw[List.length_set];exact hw) hf x.sn false false false 0 x.s x.e Ap x.ps.length cp vp x.ps hps (oU hok) (by omega) false
  have FD:=Lib.hid hfi;obtain ⟨z0,z7,z8,z9,Kg,QN⟩:=hO3.cells;obtain ⟨z1,z2,z3,z4,z5,z6⟩:=(show (w2.setCell ⟨p,10,none⟩ (.slice none 0 0)).cell? ⟨p,1,none⟩=some (.bool false)∧(w2.setCell ⟨p,10,none⟩ (.slice none 0 0)).cell? ⟨p,2,none⟩=some (.bool false)∧(w2.setCell ⟨p,10,none⟩ (.slice none 0 0)).cell? ⟨p,3,none⟩=some (.bool false)∧(w2.setCell ⟨p,10,none⟩ (.slice none 0 0)).cell? ⟨p,4,none⟩=some (.int .i64 0)∧(w2.setCell ⟨p,10,none⟩ (.slice none 0 0)).cell? ⟨p,5,none⟩=some (.bool x.s)∧(w2.setCell ⟨p,10,none⟩ (.slice none 0 0)).cell? ⟨p,6,none⟩=some (.bool x.e) from
   ⟨hO3.blk.cell 1,hO3.blk.cell 2,hO3.blk.cell 3,hO3.blk.cell 4,hO3.blk.cell 5,hO3.blk.cell 6⟩)
  have lI:=Lib.hid hk3;clear hA3 hO3 hps hfi hk3 z8 z9 Kg QN hB2;go_upto_region 4 with (fail)
  generalize w2.setCell ⟨p,10,none⟩ (.slice none 0 0)=w3 at*;go_wp2_with fail;refine FD.out.mono ?_;rintro e4 w4 ⟨v,rfl,hv,hO4⟩;go_wp2;go_ret;rw[NM.out];have hz3:=lI.out.size;exact ⟨v,rfl,aW hv hz3,lZ.step lI.out (dX.refl _ _) (dX.refl _ _) hO4⟩
 ·have e1:b1=false:=by rw[HB1.out];exact decide_eq_false hcond
  subst e1;clear hA2 hO2 Vf hk2
  go_upto_block 0 with (fail)
  obtain ⟨J,hJ⟩:∃J,J=qp (gJ x fr n) (e0+1-fr) fr:=⟨_,rfl⟩
  have HJ:=Lib.hid hJ;have hJb:=xA (gJ x fr n) (e0+1-fr) fr;rw[←hJ] at hJb;clear hJ;have hbe:oV w2 x fr fr (w2.alloc (.cells (aY 0 false false false 0 false false none 0 0) 72)):=⟨(Below.refl _ _).alloc (Nat.le_refl _) _,.inl ⟨rfl,aA.new _ _ _⟩⟩;have MI:=Lib.hid hbe;unfold aY at MI;clear hbe;go_cut [10] (fun s10 wx=>s10= .int .i64 (J:Nat)∧oV w2 x fr J wx)
  case first=>
   go_wp2_with fail
   go_loopw [10,11] (fun s10 s11 wr=>∃j:Nat,fr≤j∧j≤e0+1∧s10= .int .i64 (j:Nat)∧s11= .int .i64 ((j:Int)+1)∧oV w2 x fr j wr∧J=qp (gJ x fr n) (e0+1-j) j) (fun _ i _=>e0+2-(intOf i).toNat)
   case atStart=>exact ⟨fr,Nat.le_refl _,by omega,rfl,rfl,MI.out,HJ.out⟩
   case round=>
    obtain ⟨j,hj1,hj2,rfl,rfl,rD,hgo⟩:=hrel;have wS:=Lib.hid hgo;clear hgo;by_cases hlt:j<e0+1
    ·have hb2:=rD.1;have hOr:=NK.out.stay (w':=wr) (fun k hk=>hb2.block k (HA2.out.lt k hk));have hm:j+1≤ay x:=by omega
     have hdec:(decide (j+1=0+au x.ps)&&(false|| !false))=decide (j+1=ay x):=by simp only[Nat.zero_add,Bool.false_or,Bool.not_false,Bool.and_true];rfl
     have hsl:gD wr wr.heap.size Ap x.ps.length cp vp x.ps:=hOr.ps;have hct:Calls Tryz.prog 25 #[.agg #[.int .i64 (x.sn:Nat),.bool false,.bool false,.bool false,.int .i64 0,.bool x.s,.bool x.e,.slice Ap x.ps.length cp],.int .i64 (fr:Nat),.int .i64 ((j:Int)+1)] wr (Fj wr (x.sn:Nat) (decide (j+1=ay x)) (fr:Nat) (aM x.ps x.s 0 fr x.ps.length) (bI x.ps x.e 0 (j+1) x.ps.length) (aD x.ps 0 fr (j+1) x.ps.length)):=by
      have:=Ka (x.sn:Nat) false false false 0 x.s x.e Ap x.ps.length cp vp x.ps fr (j+1) wr hsl (oU hok) (by omega) (Nat.zero_le _) (by omega) (by unfold ay at hm;omega);rw[hdec] at this;exact this
     have HCT:=Lib.hid hct;have hvp:=vz x.ps 0 fr (j+1) hok.ps (Nat.zero_le _) (by omega) (by unfold ay at hm;omega);have hvl:=hvp.lo;have hvh:=hvp.hi;have hsf:gJ x fr n (j+1)=decide (gW ((aD x.ps 0 fr (j+1) x.ps.length).length:Int)+2+(((j+1:Nat):Int)-(fr:Int))≤n):=rfl;have hput:=fun w3 A cc=>rD.put (w3:=w3) (m:=j+1) (A:=A) (cc:=cc)
     have ad7:=Lib.hid hput;have Cn:=Lib.hid rD;have YT:=Lib.hid hsf;obtain ⟨x0,x7,x8,x9,x10,uZ⟩:=hOr.cells;obtain ⟨x1,x2,x3,x4,x5,x6⟩:=(show wr.cell? ⟨p,1,none⟩=some (.bool false)∧wr.cell? ⟨p,2,none⟩=some (.bool false)∧wr.cell? ⟨p,3,none⟩=some (.bool false)∧wr.cell? ⟨p,4,none⟩=some (.int .i64 0)∧wr.cell? ⟨p,5,none⟩=some (.bool x.s)∧wr.cell? ⟨p,6,none⟩=some (.bool x.e) from
      ⟨hOr.blk.cell 1,hOr.blk.cell 2,hOr.blk.cell 3,hOr.blk.cell 4,hOr.blk.cell 5,hOr.blk.cell 6⟩)
     clear hct hvp hsf hput rD hOr hsl hdec x8 x9 x10 uZ;generalize aD x.ps 0 fr (j+1) x.ps.length=CP at*;generalize aM x.ps x.s 0 fr x.ps.length=CS at*;generalize bI x.ps x.e 0 (j+1) x.ps.length=CE at*;generalize decide (j+1=ay x)=CL at*;go_wp2_with fail;refine HCT.out.mono ?_;rintro e3 w3 ⟨hb3,Ac,cc,rfl,hpo⟩;unfold aY;have hcc:CP.length≤cc∧cc≤9223372036854775807:=by
      obtain ⟨vl,h1,_⟩:=hpo;exact ⟨(dZ h1).cap,(dZ h1).mx⟩
     obtain ⟨aj7,aj8⟩:=hcc;have Vg:=fun (W:World)=>qy (CP.length:Int) true W ⟨by omega,by omega⟩
     have aj9:=xD (CP.length:Int);rw[KZ _ (by omega) (by omega)] at Vg;generalize Cc:gW (CP.length:Int)=hd2 at*;have ad8:=Lib.hid Vg;have HH2:=Lib.hid Cc;have HB3:=Lib.hid hb3;have Tz:=Lib.hid hpo;clear Vg Cc hb3 hpo x0 x1 x2 x3 x4 x5 x6 x7;go_wp2_with fail;refine (ad8.out _).mono ?_;rintro e4 w4 ⟨rfl,rfl⟩;by_cases hfit:hd2+2+(((j+1:Nat):Int)-(fr:Int))≤n
     ·have d1:decide (n<hd2+2+((j:Int)+1)-fr)=false:=decide_eq_false (by omega);have hbw:=Nat.le_trans Cn.out.1.size HB3.out.size;have hnx:=ad7.out (w3.alloc (.cells #[.int .i64 (x.sn:Nat),.bool false,.bool true,.bool CL,.int .i64 (fr:Nat),.bool CS,.bool CE,.slice Ac CP.length cc] 72)) Ac cc (HB3.out.alloc HB3.out.size _) (by omega) ((Tz.out.mQ Cn.out.1.size).vB ((Below.refl _ _).alloc (Nat.le_refl _) _));have Ak:=Lib.hid hnx;obtain ⟨u0,u1,u2,u3,u4,u5,u6,u7,hbk⟩:∃u0 u1 u2 u3 u4 u5 u6 u7,aA w3 w2.heap.size 72 #[u0,u1,u2,u3,u4,u5,u6,u7]:=by
       have:=(Cn.out.below HB3.out).2;rcases this with ⟨e,k⟩|⟨e,A,cc,k1,k2⟩
       ·exact ⟨_,_,_,_,_,_,_,_,k⟩
       ·exact ⟨_,_,_,_,_,_,_,_,k1⟩
      have Bc:=hbk.alloc (.cells #[.int .i64 (x.sn:Nat),.bool false,.bool true,.bool CL,.int .i64 (fr:Nat),.bool CS,.bool CE,.slice Ac CP.length cc] 72);obtain ⟨y0,y1,y2,y3,y4,y5,y6,y7⟩:=Bc.eight;have g0:=Bc.frozen 0;have g1:=Bc.frozen 1;have g2:=Bc.frozen 2;have g3:=Bc.frozen 3;have g4:=Bc.frozen 4;have g5:=Bc.frozen 5;have g6:=Bc.frozen 6;have g7:=Bc.frozen 7;have YU:J=qp (gJ x fr n) (e0+1-(j+1)) (j+1):=by
       rw[wS.out,show e0+1-j=(e0+1-(j+1))+1 by omega,qp,YT.out,if_pos (decide_eq_true hfit)]
      have ad9:=Lib.hid YU;have hnb:=aA.new w3 72 #[.int .i64 (x.sn:Nat),.bool false,.bool true,.bool CL,.int .i64 (fr:Nat),.bool CS,.bool CE,.slice Ac CP.length cc];obtain ⟨t0,t1,t2,t3,t4,t5,t6,t7⟩:=hnb.eight;clear hnx hbk Bc YU hnb hbw;go_upto_region 12 with (fail)
      generalize w3.alloc (.cells #[.int .i64 (x.sn:Nat),.bool false,.bool true,.bool CL,.int .i64 (fr:Nat),.bool CS,.bool CE,.slice Ac CP.length cc] 72)=w5 at*;go_wp2
      go_roundw
      case rel=>exact ⟨j+1,by omega,by omega,by go_num,by go_num,Ak.out,ad9.out⟩
      case measure=>simp[intOf];omega
     ·have d1:decide (n<hd2+2+((j:Int)+1)-fr)=true:=decide_eq_true (by omega);have hend:J=j:=by
       rw[wS.out,show e0+1-j=(e0+1-(j+1))+1 by omega,qp,YT.out,if_neg (by simpa using hfit)]
      subst hend;go_wp2;go_meet;exact ⟨rfl,Cn.out.below (HB3.out.alloc HB3.out.size _)⟩
    ·have hend:J=j:=by
      have:=wS.out;rw[show e0+1-j=0 by omega] at this;exact this
     subst hend;have Cn:=Lib.hid rD;clear rD;go_wp2;go_meet;exact ⟨rfl,Cn.out⟩
  case rest=>
  obtain ⟨rfl,rD⟩:=hcut;have hb2:=rD.1;have QI:=HA2.out.below hb2;have hk4:Kept (fun k _=>D k) w wc:=uW.out.trans ((Kept.of_below hb2).gX fun k o ho hm=>by have:=lt_of_heap ho;omega);have hRe:=HR.out;unfold iD at hRe;rw[YR.out] at hRe;dsimp only at hRe;rw[if_neg (by rw[HHH.out];exact hcond),←HJ.out] at hRe;by_cases QV:J=fr
  ·rw[if_pos QV] at hRe;have NM:=Lib.hid hRe;have dJ:((J:Int)==(fr:Int))=true:=by simp;omega
   have HJ1:=Lib.hid QV;have La:=Lib.hid QI;have Co:=Lib.hid hk4;clear hRe QV QI hk4 rD hb2;go_wp2;go_ret;rw[←NM.out];exact ⟨_,rfl,World.ownsRow_nil _ _ _ _,La.out.o Co.out⟩
  rw[if_neg QV] at hRe;have dJ:((J:Int)==(fr:Int))=false:=by simp;omega
  have hfJ:fr<J:=by omega
  obtain ⟨-,⟨hc1,_⟩|⟨_,Ac,cc,hbb,hpo⟩⟩:=rD
  ·exact absurd hc1 QV
  have hO4:=NK.out.stay (w':=wc) (fun k hk=>hb2.block k (HA2.out.lt k hk));have QW:=ad6.out.below hb2;have x10:=hO4.blk.cell 10;have f10:=hO4.blk.frozen 10;simp[uN] at x10;rw[iM.out] at x10;have hcr:=QW.cap;have YQ:=QW.mx;have hJs:J≤0+au x.ps:=by
   have h1:J≤ay x:=by omega
   unfold ay at h1;omega
  have hvp:=vz x.ps 0 fr J hok.ps (Nat.zero_le _) hfJ hJs;have hcs:=DN x.ps 0 fr J (Nat.zero_le _) hJs;have hvA:eP (x.sn:Nat) true (decide (J=ay x)) (fr:Nat) (aD x.ps 0 fr J x.ps.length)=true:=
   (iF _ _ _ _ _).2 ⟨by omega,by have:=hok.sn;omega,(fK _).2 hvp,fun _=>by rw[hcs];omega,fun e=>by cases e⟩
  have Ht:=QI;have hlr:rest.length≤1000:=by have:=iM.out;omega
  have akb:=hO4.blk.lt;have EJ:=Lib.hid hO4;have La:=Lib.hid QI;have Co:=Lib.hid hk4;have vC:=Lib.hid hbb;have Tz:=Lib.hid hpo;have QX:=Lib.hid QW;have MJ:=Lib.hid hvA;clear hO4 QI hk4 hbb hpo QW hvA hcs hvp hb2 Ht;by_cases hJ2:J=e0+1
  ·have dJ2:((J:Int)==(e0:Int)+1)=true:=by simp;omega
   rw[if_pos hJ2] at hRe;have NM:=Lib.hid hRe;have HJ2:=Lib.hid hJ2;have HJS:=Lib.hid hJs;clear hRe hJ2 hJs;by_cases hc1:cr=1
   ·have hr0:rest= []:=List.eq_nil_of_length_eq_zero (by omega);have HR0:=Lib.hid hr0;clear hr0;have NN:=qB (some ar) rest.length 0 rest wc (by have:=QX.out.tail;rw[if_pos hc1,hc1] at this;exact this) (by omega);have Vh:=Lib.hid NN;clear NN;go_wp2_with fail;refine Vh.out.mono ?_;rintro e5 w5 ⟨v5,rfl,hv5,hb5⟩;obtain ⟨F',A5,c5,rfl,FE,Ki,pP,yT,rq⟩:=mW La.out Co.out HX.out HP.out EJ.out vC.out Tz.out hb5 hv5 (Nat.le_refl _);have Vi:=(hb5.cell (p:=⟨p,10,none⟩) EJ.out.blk.lt).trans x10;have Vj:=(hb5.frozen (p:=⟨p,10,none⟩) EJ.out.blk.lt).trans f10;obtain ⟨vl,hps⟩:=rq.FC wh.out;have hfi:=jm FE HB.out.held (by show (st.out.set i _).length≤512;rw[List.length_set];exact hw) hf x.sn false true (decide (J=ay x)) fr (aM x.ps x.s 0 fr x.ps.length) (bI x.ps x.e 0 J x.ps.length) Ac (aD x.ps 0 fr J x.ps.length).length cc vl _ hps MJ.out (by omega) false;unfold aY at hfi;have FD:=Lib.hid hfi;obtain ⟨t0,t1,t2,t3,t4,t5,t6,t7⟩:=yT.eight;have wm:=Lib.hid pP;have P5:=Lib.hid Ki;clear FE Ki pP yT rq hps hfi hv5;go_upto_region 18 with (fail)
    generalize w5.setCell ⟨p,10,none⟩ (.slice A5 rest.length c5)=w6 at*;clear Vi Vj;go_wp2_with fail;refine FD.out.mono ?_;rintro e7 w7 ⟨v7,rfl,hv7,Kj⟩;go_wp2;go_ret;rw[←NM.out];exact ⟨v7,rfl,aW hv7 wm.out.size,lZ.step wm.out (dX.refl _ _) P5.out Kj⟩
   ·have NN:=qB _ _ _ rest wc (QX.out.Ty hc1) (by omega);have Vh:=Lib.hid NN;clear NN;go_wp2_with fail;refine Vh.out.mono ?_;rintro e5 w5 ⟨v5,rfl,hv5,hb5⟩;obtain ⟨F',A5,c5,rfl,FE,Ki,pP,yT,rq⟩:=mW La.out Co.out HX.out HP.out EJ.out vC.out Tz.out hb5 hv5 (Nat.le_refl _);have Vi:=(hb5.cell (p:=⟨p,10,none⟩) EJ.out.blk.lt).trans x10;have Vj:=(hb5.frozen (p:=⟨p,10,none⟩) EJ.out.blk.lt).trans f10;obtain ⟨vl,hps⟩:=rq.FC wh.out;have hfi:=jm FE HB.out.held (by show (st.out.set i _).length≤512;rw[List.length_set];exact hw) hf x.sn false true (decide (J=ay x)) fr (aM x.ps x.s 0 fr x.ps.length) (bI x.ps x.e 0 J x.ps.length) Ac (aD x.ps 0 fr J x.ps.length).length cc vl _ hps MJ.out (by omega) false;unfold aY at hfi;have FD:=Lib.hid hfi;obtain ⟨t0,t1,t2,t3,t4,t5,t6,t7⟩:=yT.eight;have wm:=Lib.hid pP;have P5:=Lib.hid Ki;clear FE Ki pP yT rq hps hfi hv5;go_upto_region 18 with (fail)
    generalize w5.setCell ⟨p,10,none⟩ (.slice A5 rest.length c5)=w6 at*;clear Vi Vj;go_wp2_with fail;refine FD.out.mono ?_;rintro e7 w7 ⟨v7,rfl,hv7,Kj⟩;go_wp2;go_ret;rw[←NM.out];exact ⟨v7,rfl,aW hv7 wm.out.size,lZ.step wm.out (dX.refl _ _) P5.out Kj⟩
  ·have dJ2:((J:Int)==(e0:Int)+1)=false:=by simp;omega
   rw[if_neg hJ2] at hRe;have NM:=Lib.hid hRe;have HJ2:=Lib.hid hJ2;have HJS:=Lib.hid hJs;clear hRe hJ2 hJs;by_cases hc1:cr=1
   ·have hr0:rest= []:=List.eq_nil_of_length_eq_zero (by omega);have HR0:=Lib.hid hr0;have HT1:cZ wc (some ar) rest.length 0 rest:=by have:=QX.out.tail;rw[if_pos hc1,hc1] at this;exact this
    clear hr0;have hW:=(aA.new (wc.alloc (.cells #[.int .i64 (J:Nat),.int .i64 (e0:Nat)] 99)) 95 #[.slice (some ⟨wc.heap.size,0,none⟩) 1 1,.slice (some ar) rest.length 0]);rw[World.size_alloc] at hW;have YV:Cj ((wc.alloc (.cells #[.int .i64 (J:Nat),.int .i64 (e0:Nat)] 99)).alloc (.cells #[.slice (some ⟨wc.heap.size,0,none⟩) 1 1,.slice (some ar) rest.length 0] 95)) (wc.heap.size+1) (some ⟨wc.heap.size,0,none⟩) (some ar) 1 1 rest.length (0) [(J,e0)] rest:=
     ⟨hW,(cZ.new wc 99 J e0).alloc _,((HT1).alloc _).alloc _⟩
    have hcon:=tV (wc.heap.size+1) _ _ 1 1 rest.length (0) [(J,e0)] rest _ YV (by omega) (by omega);have Vk:=Lib.hid hcon;clear hW YV hcon;go_wp2_with fail;refine Vk.out.mono ?_;rintro e5 w5 ⟨v5,rfl,hv5,NP⟩;have hb5:Below wc.heap.size wc w5:=(((Below.refl _ wc).alloc (Nat.le_refl _) _).alloc (by simp) _).trans (NP.mono (by simp;omega));have hv5:w5.ownsRow ((wc.alloc (.cells #[.int .i64 (J:Nat),.int .i64 (e0:Nat)] 99)).alloc (.cells #[.slice (some ⟨wc.heap.size,0,none⟩) 1 1,.slice (some ar) rest.length 0] 95)).heap.size 99 2 v5 ((J,e0)::rest).length (mV ((J,e0)::rest)):=hv5;clear NP;obtain ⟨F',A5,c5,rfl,FE,Ki,pP,yT,rq⟩:=mW La.out Co.out HX.out HP.out EJ.out vC.out Tz.out hb5 hv5 (by simp;omega);have Vi:=(hb5.cell (p:=⟨p,10,none⟩) EJ.out.blk.lt).trans x10;have Vj:=(hb5.frozen (p:=⟨p,10,none⟩) EJ.out.blk.lt).trans f10;obtain ⟨vl,hps⟩:=rq.FC wh.out;have hfi:=jm FE HB.out.held (by show (st.out.set i _).length≤512;rw[List.length_set];exact hw) hf x.sn false true (decide (J=ay x)) fr (aM x.ps x.s 0 fr x.ps.length) (bI x.ps x.e 0 J x.ps.length) Ac (aD x.ps 0 fr J x.ps.length).length cc vl _ hps MJ.out (by omega) false;unfold aY at hfi;have FD:=Lib.hid hfi;obtain ⟨t0,t1,t2,t3,t4,t5,t6,t7⟩:=yT.eight;have wm:=Lib.hid pP;have P5:=Lib.hid Ki;clear FE Ki pP yT rq hps hfi hv5;go_upto_region 18 with (fail)
    generalize w5.setCell ⟨p,10,none⟩ (.slice A5 ((J,e0)::rest).length c5)=w6 at*;clear Vi Vj;go_wp2_with fail;refine FD.out.mono ?_;rintro e7 w7 ⟨v7,rfl,hv7,Kj⟩;go_wp2;go_ret;rw[←NM.out];exact ⟨v7,rfl,aW hv7 wm.out.size,lZ.step wm.out (dX.refl _ _) P5.out Kj⟩
   ·have hW:=(aA.new (wc.alloc (.cells #[.int .i64 (J:Nat),.int .i64 (e0:Nat)] 99)) 95 #[.slice (some ⟨wc.heap.size,0,none⟩) 1 1,.slice (some ⟨ar.block,ar.off+2,none⟩) rest.length (cr-1)]);rw[World.size_alloc] at hW;have YV:Cj ((wc.alloc (.cells #[.int .i64 (J:Nat),.int .i64 (e0:Nat)] 99)).alloc (.cells #[.slice (some ⟨wc.heap.size,0,none⟩) 1 1,.slice (some ⟨ar.block,ar.off+2,none⟩) rest.length (cr-1)] 95)) (wc.heap.size+1) (some ⟨wc.heap.size,0,none⟩) (some ⟨ar.block,ar.off+2,none⟩) 1 1 rest.length (cr-1) [(J,e0)] rest:=
     ⟨hW,(cZ.new wc 99 J e0).alloc _,((QX.out.Ty hc1).alloc _).alloc _⟩
    have hcon:=tV (wc.heap.size+1) _ _ 1 1 rest.length (cr-1) [(J,e0)] rest _ YV (by omega) (by omega);have Vk:=Lib.hid hcon;clear hW YV hcon;go_wp2_with fail;refine Vk.out.mono ?_;rintro e5 w5 ⟨v5,rfl,hv5,NP⟩;have hb5:Below wc.heap.size wc w5:=(((Below.refl _ wc).alloc (Nat.le_refl _) _).alloc (by simp) _).trans (NP.mono (by simp;omega));have hv5:w5.ownsRow ((wc.alloc (.cells #[.int .i64 (J:Nat),.int .i64 (e0:Nat)] 99)).alloc (.cells #[.slice (some ⟨wc.heap.size,0,none⟩) 1 1,.slice (some ⟨ar.block,ar.off+2,none⟩) rest.length (cr-1)] 95)).heap.size 99 2 v5 ((J,e0)::rest).length (mV ((J,e0)::rest)):=hv5;clear NP;obtain ⟨F',A5,c5,rfl,FE,Ki,pP,yT,rq⟩:=mW La.out Co.out HX.out HP.out EJ.out vC.out Tz.out hb5 hv5 (by simp;omega);have Vi:=(hb5.cell (p:=⟨p,10,none⟩) EJ.out.blk.lt).trans x10;have Vj:=(hb5.frozen (p:=⟨p,10,none⟩) EJ.out.blk.lt).trans f10;obtain ⟨vl,hps⟩:=rq.FC wh.out;have hfi:=jm FE HB.out.held (by show (st.out.set i _).length≤512;rw[List.length_set];exact hw) hf x.sn false true (decide (J=ay x)) fr (aM x.ps x.s 0 fr x.ps.length) (bI x.ps x.e 0 J x.ps.length) Ac (aD x.ps 0 fr J x.ps.length).length cc vl _ hps MJ.out (by omega) false;unfold aY at hfi;have FD:=Lib.hid hfi;obtain ⟨t0,t1,t2,t3,t4,t5,t6,t7⟩:=yT.eight;have wm:=Lib.hid pP;have P5:=Lib.hid Ki;clear FE Ki pP yT rq hps hfi hv5;go_upto_region 18 with (fail)
    generalize w5.setCell ⟨p,10,none⟩ (.slice A5 ((J,e0)::rest).length c5)=w6 at*;clear Vi Vj;go_wp2_with fail;refine FD.out.mono ?_;rintro e7 w7 ⟨v7,rfl,hv7,Kj⟩;go_wp2;go_ret;rw[←NM.out];exact ⟨v7,rfl,aW hv7 wm.out.size,lZ.step wm.out (dX.refl _ _) P5.out Kj⟩
end
end
end Go.Proofs.YtiecgfahidpldaaGreat
