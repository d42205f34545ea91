/- umpdu: Header, Lengths, Size. umpdu.Vali. -/
import Derived.Test.YtbhiklnljiehiaaGreatM2ab
import Derived.Laws.EntriesVeiled
import Derived.StillTailTactics
import Derived.Deep.RegionHeld3
namespace Go.Proofs.YtbhiklnljiehiaaGreat
open Go.RowKit Go.Shelf
attribute [local go_sem] Oper.semAt_some
theorem yF:(Tryz.prog.info? 3).map (fun i=>(i.zero,i.size,i.bytes))=some (some (.int .i64 0),1,8):=by kernel_rfl
theorem II:Tryz.prog.underlying 75=some (.slice 3):=by kernel_rfl
theorem lZ {k:IntKind} {a b:Int} (h:a=b):Ending.returned (.int k a)= .returned (.int k b):=by rw[h]
theorem bI {a b:Bool} (h:a=b):Ending.returned (.bool a)= .returned (.bool b):=by rw[h]
def iQ (n:Int):Int:=if n<1∨64<n then 0 else 2+(12*(n-1)+7)/8
set_option maxHeartbeats 400000 in
theorem IJ (n:Int) (w:World) (h: -9223372036854775808≤n∧n≤9223372036854775807):
 Calls Tryz.prog 168 #[.int .i64 n] w fun e w'=>e= .returned (.int .i64 (iQ n))∧w=w':=by
 have hfin:iQ n=if n<1∨64<n then 0 else 2+(12*(n-1)+7)/8:=rfl
 have HF:=ah hfin;clear hfin;generalize iQ n=r at*;by_cases h1:n<1
 ·go_enter Tryz.func168,Tryz.ntmps168;go_wp2;go_ret;exact ⟨lZ (by rw[HF.out,if_pos (by omega)]),rfl⟩
 ·by_cases h2:64<n
  ·go_enter Tryz.func168,Tryz.ntmps168;go_wp2;go_ret;exact ⟨lZ (by rw[HF.out,if_pos (by omega)]),rfl⟩
  ·go_enter Tryz.func168,Tryz.ntmps168;go_wp2;go_ret;exact ⟨lZ (by rw[HF.out,if_neg (by omega)]),rfl⟩
def lens (ps:List (List UInt8)):List Value:=ps.map fun p=> .int .i64 (p.length:Nat)
theorem Lu (ps:List (List UInt8)) (k:Nat) (h:k<ps.length):lens (ps.take (k+1))=lens (ps.take k)++ [.int .i64 ((ps[k]?.getD []).length:Nat)]:=by
 unfold lens;rw[List.take_add_one,List.getElem?_eq_getElem h,List.map_append];rfl
def Lv (w:World) (ps:List (List UInt8)) (e:Ending) (w':World):Prop:=
 ∃g v,e= .returned (.func (.func 170) #[] #[.pointer (some ⟨g,0,none⟩)])∧w.heap.size≤g∧au w' g 75 #[v]∧w'.ownsRow w.heap.size 3 1 v ps.length (lens ps)∧Below w.heap.size w w'
set_option maxRecDepth 3000 in
set_option maxHeartbeats 1000000 in
theorem Fu (s e:Bool) (A:Option Addr) (n c:Nat) (vs:List Value) (ps:List (List UInt8)) (w:World) (h:iO w w.heap.size A n c vs ps) (hn:n≤1048576):
 Calls Tryz.prog 130 #[.agg #[.bool s,.bool e,.slice A n c]] w (Lv w ps):=by
 obtain ⟨i0,hi,hz0,hz1,hz2⟩:=info_parts yF;have HL:=ah h.len;have hA:=h.alloc (aN) (.cells #[.bool s,.bool e,.slice A n c] 145);go_enter Tryz.func130,Tryz.ntmps130;go_wp2
 go_loopw [9] (fun i wr=>∃(k:Nat) (v:Value),k≤n∧i= .int .i64 k∧au wr w.heap.size 145 #[.bool s,.bool e,.slice A n c]∧au wr (w.heap.size+1) 75 #[v]∧wr.ownsRow w.heap.size 3 1 v k (lens (ps.take k))∧Below w.heap.size w wr) (fun i _=>n-(intOf i).toNat)
 case atStart=>exact ⟨0,_,Nat.zero_le _,rfl,(au.new w _ _).alloc _,by simpa using au.new (w.alloc (.cells #[.bool s,.bool e,.slice A n c] 145)) 75 #[.slice none 0 0],World.ownsRow_nil _ _ _ _,((Below.refl _ w).alloc (aN) _).alloc (by simp) _⟩
 case round=>
  obtain ⟨k,v,hk,rfl,hb0,hb1,hown,hbw⟩:=hrel;by_cases hlt:k<n
  ·obtain ⟨ad,Ai,ci,rfl,hb,hc,hsl⟩:=(h.below hbw).get hlt;have hs1:=Lu ps k (by rw[HL.out];exact hlt);have hl:(ps[k]?.getD []).length≤9223372036854775807:=by have:=hsl.cap;have:=hsl.mx;omega
   generalize ps[k]?.getD []=p at*;generalize lens (List.take k ps)=L at*;have rU:=ah hs1;clear hs1;have c1:=hb1.cell 0;have f1:=hb1.frozen 0;simp at c1;go_wp2_with (at_builtin;refine wpList_append_own _ rfl _ _ 75 rfl w.heap.size 3 i0 (.int .i64 0) 1 8 II hi hz0 hz1 hz2 rfl (by decide) _ _ _ rfl (hown.alloc _) ⟨wr.heap.size,0,none⟩ 1 1 [.int .i64 (p.length:Nat)] rfl rfl ?c1 ?c2 ?c3 ?c4 ?c5 ?_)
   case c1=>exact cell_one_new _ _ _
   case c2=>simp[Value.oneCell']
   case c3=>unfold maxLen;omega
   case c4=>omega
   case c5=>have:=hbw.size;simp;omega
   intro v' w2 hown' hgrow _;have hne:v.ownBlock≠some (w.heap.size+1):=aJ hown hb1 (by decide);have hne0:v.ownBlock≠some w.heap.size:=aJ hown hb0 (by decide);have hb1':=(hb1.alloc (.cells #[.int .i64 (p.length:Nat)] 3)).grown hgrow (fun e=>hne e.symm);have adY:=(hb0.alloc (.cells #[.int .i64 (p.length:Nat)] 3)).grown hgrow (fun e=>hne0 e.symm);have adZ:=(hbw.alloc hbw.size (.cells #[.int .i64 (p.length:Nat)] 3)).grown hgrow (by have:=hbw.size;simp;omega) (fun j hj=>(hown.lt j hj).1);have c1':=hb1'.cell 0;have f1':=hb1'.frozen 0;simp at c1';obtain ⟨g',cap',rfl,hgl,kL⟩:=hown'.form (by omega);go_wp2
   go_roundw
   case rel=>
    refine ⟨k+1,_,by omega,by go_num,adY.far (by simp) _,by simpa using hb1'.av 0 (.slice (some ⟨g',0,none⟩) (k+1) cap'),?_,adZ.setCell (p:=⟨w.heap.size+1,0,none⟩) (by simp) _⟩;rw[rU.out];exact hown'.kept (aO _ _ 0 _) (.inr (aJ hown' hb1' (by decide)))
   case measure=>simp[intOf];omega
  ·have e:ps.take k=ps:=List.take_of_length_le (by rw[HL.out];omega);have hkn:k=ps.length:=by rw[HL.out];omega
   rw[e,hkn] at hown;clear e hkn;go_wp2;go_ret;exact ⟨_,_,rfl,by omega,hb1,hown,hbw⟩
abbrev IL:= {x:Nat × Nat//x.2≤1099511627776}
def yG (ps:List (List UInt8)) (h:∀p∈ps,p.length≤1099511627776) (k:Nat):List IL:=
 (List.range k).map fun i=>⟨(i,(ps[i]?.getD []).length),by
  rcases Nat.lt_or_ge i ps.length with hi|hi
  ·rw[List.getElem?_eq_getElem hi];exact h _ (List.getElem_mem hi)
  ·rw[List.getElem?_eq_none hi];simp⟩
theorem Ch (ps:List (List UInt8)) (h:∀p∈ps,p.length≤1099511627776) (k:Nat) (x:IL) (hx:x.1=(k,(ps[k]?.getD []).length)):yG ps h (k+1)=yG ps h k++ [x]:=by
 unfold yG;rw[List.range_succ,List.map_append]
 congr 1
 simp only[List.map_cons,List.map_nil,List.cons.injEq,and_true];exact Subtype.ext hx.symm
theorem Fv (ps:List (List UInt8)) (h:∀p∈ps,p.length≤1099511627776) (k:Nat):(yG ps h k).length=k:=by simp[yG]
set_option maxRecDepth 100000 in
set_option maxHeartbeats 2000000 in
theorem yH (n:Nat) (hn:1≤n) (g B:Nat) (v:Value) (ps:List (List UInt8)) (hle:∀p∈ps,p.length≤1099511627776) (hlen:ps.length≤1048576) (M:Nat→Obj→Prop) (w:World)
 (hg:au w g 75 #[v]) (hv:w.ownsRow B 3 1 v ps.length (lens ps)) (hMg:¬M g (.cells #[v] 75 (0,0))) (N5:∀k o,v.ownBlock=some k→¬M k o):
 SeqStopsK Fence.wide n Tryz.prog 170 #[.pointer (some ⟨g,0,none⟩)] (fun x:IL=> #[Value.int .i64 (x.1.1:Nat),.int .i64 (x.1.2:Nat)]) (Kept M)
  (fun xs=>xs=yG ps hle ps.length) (fun pre=>∃k,k≤ps.length∧pre=yG ps hle k) ps.length w:=fun l J Jx W hW _ _ hY h0=>by
 have hg':=hg.below hW hg.lt;have hv':W.ownsRow B 3 1 v ps.length (lens ps):=hv.kept (row:=none) ⟨hW.os,hW.tape,hW.output,hW.size,fun k hk _=>hW.block k hk⟩ (by
  rcases hb:v.ownBlock with _|k
  ·exact .inl rfl
  ·exact .inr (by simp))
 have hvk:∀wr,Kept M W wr→wr.ownsRow B 3 1 v ps.length (lens ps):=by
  intro wr hk;rcases hv'.2 with ⟨rfl,h0⟩|⟨g',cap,cur,rfl,h1,h2,h3⟩
  ·exact ⟨hv'.1,.inl ⟨rfl,h0⟩⟩
  ·exact ⟨hv'.1,.inr ⟨g',cap,cur,rfl,h1,hk.same _ _ h2 (N5 _ _ rfl),h3⟩⟩
 have VF:=ah hvk;clear hvk;obtain ⟨A,c,rfl,hsl,_⟩:=bq hv';refine callsIn_of_wp Tryz.func170 rfl trivial ?_ rfl;simp only[Tryz.ntmps170,List.size_toArray,List.length_cons,List.length_nil,Nat.reduceAdd,Nat.reduceSub,Array.replicate_succ,Array.replicate_zero,List.push_toArray,List.append_toArray,List.nil_append,List.cons_append];have hcw:=hg'.cell 0;simp at hcw;refine jh ?_
 gi_wp2
 refine wpIn_label ?_
 gi_wp2
 gi_loopw [7] (fun i wr=>∃k:Nat,k≤ps.length∧i= .int .i64 k∧J (yG ps hle k) wr∧Kept M W wr)
  (fun i _=>ps.length-(intOf i).toNat)
 case atStart=>exact ⟨0,Nat.zero_le _,by simp,by simpa[yG] using h0,Kept.refl _ _⟩
 case round=>
  obtain ⟨k,hk,rfl,hJs,hnx⟩:=hrel;by_cases hlt:k<ps.length
  ·obtain ⟨A',c',e',hs',_⟩:=bq (VF.out wr hnx);injection e' with e1 e2 e3
   subst e1 e3;obtain ⟨ad,u,rfl,_,hu,hcell⟩:=hs'.get hlt;have hp:(ps[k]?.getD []).length≤1099511627776:=by
    rw[List.getElem?_eq_getElem hlt];exact hle _ (List.getElem_mem _)
   have hu':u= .int .i64 ((ps[k]?.getD []).length:Nat):=by
    unfold lens at hu;rw[List.getElem?_map,List.getElem?_eq_getElem hlt] at hu;rw[List.getElem?_eq_getElem hlt];simpa using hu.symm
   have hsucc:=Ch ps hle k ⟨(k,(ps[k]?.getD []).length),hp⟩ rfl;have EW:=hY _ ⟨(k,(ps[k]?.getD []).length),hp⟩ wr hJs (by rw[Fv];exact hlt);rw[hu'] at hcell;clear hu hu';have Ut:=ah hsucc;clear hsucc;generalize (ps[k]?.getD []).length=m at*;obtain ⟨fn,tmps,assign,body,hy,hR⟩:=EW;dsimp only at hy
   gi_wp2
   refine hR.mono ?_;rintro e W3 (⟨rfl,hJ3,hk3⟩|⟨rfl,hJx3⟩)
   ·gi_wp2
    go_roundw
    case rel=>exact ⟨k+1,by omega,by go_num,by rw[Ut.out];exact hJ3,hnx.trans hk3⟩
    case measure=>simp[intOf];omega
   ·gi_wp2
    rw[Exit.noGoto_normal]
    go_end0
    exact ⟨⟨_,rfl⟩,.inr ⟨_,⟨k+1,by omega,Ut.out.symm⟩,hJx3⟩⟩
  ·have e:k=ps.length:=by omega
   have Dz:J (yG ps hle ps.length) wr:=by rw[e] at hJs;exact hJs
   clear e hJs
   gi_wp2
   rw[Exit.noGoto_normal]
   go_end0
   exact ⟨⟨_,rfl⟩,.inl ⟨_,rfl,Dz⟩⟩
def rq (l:List IL):Nat:=(l.map fun x=>x.1.2).sum
theorem yI (l:List IL) (x:IL):rq (l++ [x])=rq l+x.1.2:=by simp[rq]
theorem N9 (l:List IL):rq l≤1099511627776*l.length:=by
 induction l with
 |nil=>simp[rq]
 |cons x l ih=>
  have:=x.2;unfold rq at ih ⊢;rw[List.map_cons,List.sum_cons,List.length_cons];omega
theorem IK (ps:List (List UInt8)) (h:∀p∈ps,p.length≤1099511627776) (k:Nat) (hk:k≤ps.length):rq (yG ps h k)=aj (ps.take k):=by
 induction k with
 |zero=>rfl
 |succ k ih=>
  have hp:(ps[k]?.getD []).length≤1099511627776:=by
   rw[List.getElem?_eq_getElem (by omega)];exact h _ (List.getElem_mem _)
  rw[Ch ps h k ⟨_,hp⟩ rfl,yI,fH ps k (by omega),ih (by omega)]
theorem RB {β:Type} (g:Nat) (t:TypeId) (f:β→Array Value):Own (fun s W=>au W g t (f s)):=fun s X Y row hs hg hrow=>
 hs.grown hg (fun e'=>by obtain ⟨o,ho,hc⟩:=hrow g e'.symm;rw[show X.heap[g]? =_ from hs] at ho;cases ho;cases hc)
set_option maxRecDepth 100000 in
set_option maxHeartbeats 2000000 in
theorem pU (s e:Bool) (A:Option Addr) (n c:Nat) (vs:List Value) (ps:List (List UInt8)) (w:World) (h:iO w w.heap.size A n c vs ps) (hn:n≤1048576) (hle:∀p∈ps,p.length≤1099511627776):
 Calls Tryz.prog 88 #[.agg #[.bool s,.bool e,.slice A n c]] w fun e w'=>e= .returned (.int .i64 (aj ps))∧Below w.heap.size w w':=by
 refine (callsIn_wide (n:=5)).1 ?_;have HL:=ah h.len;refine callsIn_of_wp_marks Tryz.func88 rfl trivial ?_ rfl;simp only[Tryz.ntmps88,List.size_toArray,List.length_cons,List.length_nil,Nat.reduceAdd,Nat.reduceSub,Array.replicate_succ,Array.replicate_zero,List.push_toArray,List.append_toArray,List.nil_append,List.cons_append];have hA:=(h.alloc (aN) (.cells #[.bool s,.bool e,.slice A n c] 145)).alloc (by simp) (.cells #[.int .i64 0] 3);have hA:=hA.more (B':=((w.alloc (.cells #[.bool s,.bool e,.slice A n c] 145)).alloc (.cells #[.int .i64 0] 3)).heap.size) (by simp;omega);have HA:=ah hA;clear hA
 gi_wp2_with (refine ⟨trivial,?_⟩;gi_at_call 130;refine ((callsIn_wide (n:=4)).2 (Fu s e A n c vs ps _ HA.out hn)).mono ?_;rintro e1 w1 ⟨g,v,rfl,hg,hbg,hv,hbw⟩)
 have hr0:au ((w.alloc (.cells #[.bool s,.bool e,.slice A n c] 145)).alloc (.cells #[.int .i64 0] 3)) (w.heap.size+1) 3 #[.int .i64 0]:=by
  simpa using au.new (w.alloc (.cells #[.bool s,.bool e,.slice A n c] 145)) 3 #[.int .i64 0]
 have hr1:=hr0.below hbw hr0.lt;have hgn:g≠w.heap.size+1:=by simp at hg;omega
 have hvn:∀k,v.ownBlock=some k→k≠w.heap.size+1:=fun k hk=>by have:=(hv.lt k hk).1;simp at this;omega
 have hB1:Below w.heap.size w w1:=((Below.refl _ w).alloc (aN) _).alloc (by simp) _ |>.trans (hbw.mono (by simp;omega));have hsz:w.heap.size+1<w1.heap.size:=hr1.lt;refine wpIn_rangeFunc_ownG rfl (by omega) (gf:=170) (lb:= #[.pointer (some ⟨g,0,none⟩)]) rfl trivial (enters_of Tryz.func170 (by kernel_rfl) rfl)
  (yH _ (by omega) g _ v ps hle (by rw[HL.out];exact hn) (MB (fun k _=>k=w.heap.size+1) w1.heap.size) w1 hbg hv (by rintro (e|⟨_,e⟩);exact hgn e;cases e) (fun k o hk=>by
   rintro (e|⟨e,_⟩)
   ·exact hvn k hk e
   ·have:=(hv.lt k hk).2;omega))
  Kept.trans (MB.b w1) (Below.refl _ _) (fun _=>rfl)
  (fun pre W=>au W (w.heap.size+1) 3 #[.int .i64 (rq pre)]∧Kept (MB (fun k _=>k=w.heap.size+1) w1.heap.size) w1 W) (fun _ _ _=>False)
  (OwnFrom.and (Own.from (RB _ _ _) _) tK) (fun _ _ _ _ _ hs _ _=>hs)
  ⟨by simpa[rq] using hr1,Kept.refl _ _⟩
  (fun x=> {tmps:= #[.agg #[.bool s,.bool e,.slice A n c],.pointer (some ⟨w.heap.size,0,none⟩),.pointer (some ⟨w.heap.size+1,0,none⟩),undef,.int .i64 (x.1.2:Nat),.agg #[.bool s,.bool e,.slice A n c],.func (.func 170) #[] #[.pointer (some ⟨g,0,none⟩)],.int .i64 (x.1.1:Nat),.int .i64 (x.1.2:Nat),undef,undef,undef,undef],defers:= []}) ?assign ?body ?done ?stop
 case assign=>
  intro l x W K hK
  gi_wp2
  exact hK
 case body=>
  rintro lp pre x W ⟨hbx,Iw⟩ hlen;have hc:=hbx.cell 0;have hf:=hbx.frozen 0;simp at hc;have hx:=x.2;have hsl:=N9 pre;have hsn:=yI pre x;have QS:=ah hsn;clear hsn;generalize rq pre=S at*;have hlen':pre.length<1048576:=by have:=HL.out;omega
  obtain ⟨⟨xi,xl⟩,hxl⟩:=x;dsimp only at*
  gi_wp2
  refine ⟨(KeepsOthers.setCell _ _ _).from _,(Kept.refl _ W).setCell (p:=⟨w.heap.size+1,0,none⟩) (fun _ _=> .inl rfl) _,?_,Iw.setCell (p:=⟨w.heap.size+1,0,none⟩) (fun _ _=> .inl rfl) _⟩;rw[QS.out];simpa using hbx.av 0 (.int .i64 ((S:Int)+xl))
 case done=>
  rintro D ys W hD rfl ⟨hbx,Iw⟩ hK;have hc:=hbx.cell 0;have hf:=hbx.frozen 0;simp at hc;have hS:=IK ps hle ps.length (aN);rw[List.take_of_length_le (aN)] at hS;rw[hS] at hc hbx;clear hS;generalize hSS:aj ps=S at*;have QT:=ah hSS;clear hSS;have hK2:=(KeepsOthers.setCell W ⟨w.heap.size+1,0,none⟩ (.int .i64 S)).same D _ hK rfl
  gi_wp2
  refine ⟨by simp,.inl ⟨_,_,rfl,run_takeDeferred hK2,?_⟩⟩;have ad3:=(Iw.setCell (p:=⟨w.heap.size+1,0,none⟩) (fun _ _=> .inl rfl) (.int .i64 S)).taken (.deferred none) hD hK2 rfl;have ad4:=(hbx.av 0 (.int .i64 S)).grown (grownBy_putObj' _ D (.deferred none)) (by simp;omega);have hc2:=ad4.cell 0;simp at hc2;refine ⟨.int .i64 S,by simp[results,Tryz.results88,go_sem,hc2],lZ (by rw[QT.out]),hB1.trans (ad3.drop.below (fun k o e=>by omega) (by omega))⟩
 case stop=>
  rintro D c pre W _ _ h _;exact h.elim
end Go.Proofs.YtbhiklnljiehiaaGreat
namespace Go.Proofs.YtbhiklnljiehiaaGreat
open Go.RowKit
def jc (n:Nat):Bool:=decide (n=0)
def lz (n:Nat):Bool:=decide (2047<n)
def Uu (q:List UInt8→Bool) (ps:List (List UInt8)) (w:World) (e:Ending) (w':World):Prop:=
 (∃k:Nat,e= .returned (.int .i64 k)∧(∃p∈ps,q p=true)∧w=w')∨(e= .returned (.int .i64 (-1))∧(∀p∈ps,q p=false)∧w=w')
theorem Ci (A:Option Addr) (n c:Nat) (w:World):Calls Tryz.prog 211 #[.slice A n c] w fun e w'=>e= .returned (.bool (jc n))∧w=w':=by
 have hd:((n:Int)==0)=jc n:=by unfold jc;rw[Bool.eq_iff_iff];simp;try omega
 generalize jc n=r at*;go_enter Tryz.func211,Tryz.ntmps211;go_wp2;go_ret
 first|exact ⟨rfl,rfl⟩|exact ⟨bI hd,rfl⟩
set_option maxHeartbeats 400000 in
theorem yJ (A:Option Addr) (n c:Nat) (vs:List Value) (ps:List (List UInt8)) (w:World) (h:iO w w.heap.size A n c vs ps):
 Calls Tryz.prog 224 #[.slice A n c,.func (.func 211) #[] #[]] w (Uu (fun p=>jc p.length) ps w):=by
 have HL:=ah h.len;have hn63:n≤9223372036854775807:=by have:=h.sl.cap;have:=h.sl.mx;omega
 go_enter Tryz.func224,Tryz.ntmps224;go_wp2
 go_loop [8] (fun i=>∃k:Nat,k≤n∧i= .int .i64 k∧∀p∈ps.take k,jc p.length=false) (fun i=>n-(intOf i).toNat)
 case atStart=>exact ⟨0,Nat.zero_le _,rfl,by simp⟩
 case round=>
  obtain ⟨k,hk,rfl,hall⟩:=hrel;have HA:=ah hall;clear hall;by_cases hlt:k<n
  ·obtain ⟨ad,Ai,ci,rfl,hb,hc,hsl⟩:=h.get hlt;have hkl:k<ps.length:=by rw[HL.out];exact hlt
   have hin:ps[k]?.getD []∈ps:=by rw[List.getElem?_eq_getElem hkl];exact List.getElem_mem _
   have htk:ps.take (k+1)=ps.take k++ [ps[k]?.getD []]:=by rw[List.take_add_one,List.getElem?_eq_getElem hkl];rfl
   generalize ps[k]?.getD []=p at*;have HT:=ah htk;have HI:=ah hin;clear htk hin hkl;cases hq:jc p.length with
   |false=>
    have HQ:=ah hq;have iw:=Ci Ai p.length ci w;rw[hq] at iw;have HF:=ah iw;clear iw hq;go_wp2_with (go_at_call 211;refine HF.out.mono ?_;rintro e w' ⟨rfl,rfl⟩)
    go_round
    case rel=>exact ⟨k+1,by omega,by go_num,by
     intro q hq;rw[HT.out,List.mem_append] at hq;rcases hq with hq|hq
     ·exact HA.out q hq
     ·rw[List.mem_singleton] at hq;rw[hq];exact HQ.out⟩
    case measure=>simp[intOf];omega
   |true=>
    have HQ:=ah hq;have iw:=Ci Ai p.length ci w;rw[hq] at iw;have HF:=ah iw;clear iw hq;go_wp2_with (go_at_call 211;refine HF.out.mono ?_;rintro e w' ⟨rfl,rfl⟩);go_ret;exact .inl ⟨k,rfl,⟨p,HI.out,HQ.out⟩,rfl⟩
  ·have e:ps.take k=ps:=List.take_of_length_le (by rw[HL.out];omega);have hA:=HA.out;rw[e] at hA;have xP:=ah hA;clear hA e;go_wp2;go_ret;exact .inr ⟨rfl,xP.out,rfl⟩
theorem tO (A:Option Addr) (n c:Nat) (vs:List Value) (ps:List (List UInt8)) (w:World) (h:iO w w.heap.size A n c vs ps):
 Calls Tryz.prog 216 #[.slice A n c,.func (.func 211) #[] #[]] w fun e w'=>e= .returned (.bool (ps.any fun p=>jc p.length))∧w=w':=by
 go_enter Tryz.func216,Tryz.ntmps216;go_wp2_with fail;refine (yJ A n c vs ps w h).mono ?_;rintro e w' (⟨k,rfl,⟨p,hp,hq⟩,rfl⟩|⟨rfl,hall,rfl⟩)
 ·have hany:(ps.any fun p=>jc p.length)=true:=by rw[List.any_eq_true];exact ⟨p,hp,hq⟩
  have HA:=ah hany;clear hany;go_wp2;go_ret;exact ⟨bI (by rw[HA.out]),rfl⟩
 ·have hany:(ps.any fun p=>jc p.length)=false:=by rw[List.any_eq_false];intro p hp;have:=hall p hp;dsimp only at this;rw[this];simp
  have HA:=ah hany;clear hany hall;go_wp2;go_ret;exact ⟨bI (by rw[HA.out]),rfl⟩
theorem Fw (A:Option Addr) (n c:Nat) (w:World):Calls Tryz.prog 212 #[.slice A n c] w fun e w'=>e= .returned (.bool (lz n))∧w=w':=by
 have hd:(decide (2047<(n:Int)))=lz n:=by unfold lz;rw[Bool.eq_iff_iff];simp;try omega
 generalize lz n=r at*;go_enter Tryz.func212,Tryz.ntmps212;go_wp2;go_ret
 first|exact ⟨rfl,rfl⟩|exact ⟨bI hd,rfl⟩
set_option maxHeartbeats 400000 in
theorem Ba (A:Option Addr) (n c:Nat) (vs:List Value) (ps:List (List UInt8)) (w:World) (h:iO w w.heap.size A n c vs ps):
 Calls Tryz.prog 224 #[.slice A n c,.func (.func 212) #[] #[]] w (Uu (fun p=>lz p.length) ps w):=by
 have HL:=ah h.len;have hn63:n≤9223372036854775807:=by have:=h.sl.cap;have:=h.sl.mx;omega
 go_enter Tryz.func224,Tryz.ntmps224;go_wp2
 go_loop [8] (fun i=>∃k:Nat,k≤n∧i= .int .i64 k∧∀p∈ps.take k,lz p.length=false) (fun i=>n-(intOf i).toNat)
 case atStart=>exact ⟨0,Nat.zero_le _,rfl,by simp⟩
 case round=>
  obtain ⟨k,hk,rfl,hall⟩:=hrel;have HA:=ah hall;clear hall;by_cases hlt:k<n
  ·obtain ⟨ad,Ai,ci,rfl,hb,hc,hsl⟩:=h.get hlt;have hkl:k<ps.length:=by rw[HL.out];exact hlt
   have hin:ps[k]?.getD []∈ps:=by rw[List.getElem?_eq_getElem hkl];exact List.getElem_mem _
   have htk:ps.take (k+1)=ps.take k++ [ps[k]?.getD []]:=by rw[List.take_add_one,List.getElem?_eq_getElem hkl];rfl
   generalize ps[k]?.getD []=p at*;have HT:=ah htk;have HI:=ah hin;clear htk hin hkl;cases hq:lz p.length with
   |false=>
    have HQ:=ah hq;have iw:=Fw Ai p.length ci w;rw[hq] at iw;have HF:=ah iw;clear iw hq;go_wp2_with (go_at_call 212;refine HF.out.mono ?_;rintro e w' ⟨rfl,rfl⟩)
    go_round
    case rel=>exact ⟨k+1,by omega,by go_num,by
     intro q hq;rw[HT.out,List.mem_append] at hq;rcases hq with hq|hq
     ·exact HA.out q hq
     ·rw[List.mem_singleton] at hq;rw[hq];exact HQ.out⟩
    case measure=>simp[intOf];omega
   |true=>
    have HQ:=ah hq;have iw:=Fw Ai p.length ci w;rw[hq] at iw;have HF:=ah iw;clear iw hq;go_wp2_with (go_at_call 212;refine HF.out.mono ?_;rintro e w' ⟨rfl,rfl⟩);go_ret;exact .inl ⟨k,rfl,⟨p,HI.out,HQ.out⟩,rfl⟩
  ·have e:ps.take k=ps:=List.take_of_length_le (by rw[HL.out];omega);have hA:=HA.out;rw[e] at hA;have xP:=ah hA;clear hA e;go_wp2;go_ret;exact .inr ⟨rfl,xP.out,rfl⟩
theorem vk (A:Option Addr) (n c:Nat) (vs:List Value) (ps:List (List UInt8)) (w:World) (h:iO w w.heap.size A n c vs ps):
 Calls Tryz.prog 216 #[.slice A n c,.func (.func 212) #[] #[]] w fun e w'=>e= .returned (.bool (ps.any fun p=>lz p.length))∧w=w':=by
 go_enter Tryz.func216,Tryz.ntmps216;go_wp2_with fail;refine (Ba A n c vs ps w h).mono ?_;rintro e w' (⟨k,rfl,⟨p,hp,hq⟩,rfl⟩|⟨rfl,hall,rfl⟩)
 ·have hany:(ps.any fun p=>lz p.length)=true:=by rw[List.any_eq_true];exact ⟨p,hp,hq⟩
  have HA:=ah hany;clear hany;go_wp2;go_ret;exact ⟨bI (by rw[HA.out]),rfl⟩
 ·have hany:(ps.any fun p=>lz p.length)=false:=by rw[List.any_eq_false];intro p hp;have:=hall p hp;dsimp only at this;rw[this];simp
  have HA:=ah hany;clear hany hall;go_wp2;go_ret;exact ⟨bI (by rw[HA.out]),rfl⟩
end Go.Proofs.YtbhiklnljiehiaaGreat
namespace Go.Proofs.YtbhiklnljiehiaaGreat
open Go.RowKit
theorem iO.drew' {w:World} {B n c:Nat} {A:Option Addr} {vs:List Value} {ps:List (List UInt8)} (h:iO w B A n c vs ps):iO w.drew B A n c vs ps:=⟨h.sl.drew,h.len,fun i p hi=>let ⟨Ai,ci,e,hs⟩:=h.each i p hi;⟨Ai,ci,e,hs.drew⟩⟩
theorem iO.iy {w:World} {n c:Nat} {A:Option Addr} {vs:List Value} {ps:List (List UInt8)} (h:iO w w.heap.size A n c vs ps) (k:Nat):iO (w.drewN k) (w.drewN k).heap.size A n c vs ps:=⟨h.sl.drewN k,h.len,fun i p hi=>let ⟨Ai,ci,e,hs⟩:=h.each i p hi;⟨Ai,ci,e,hs.drewN k⟩⟩
theorem iO.pre {w:World} {B n c k:Nat} {A:Option Addr} {vs:List Value} {ps:List (List UInt8)} (h:iO w B A n c vs ps) (hk:k≤n):iO w B A k k (vs.take k) (ps.take k):=by
 refine ⟨⟨by rw[List.length_take,h.sl.len];omega,aN,by have:=h.sl.cap;have:=h.sl.mx;omega,fun hp=> ?_⟩,by rw[List.length_take,h.len];omega,fun i p hi=> ?_⟩
 ·obtain ⟨ad,e,hb,hc⟩:=h.sl.at_ (by omega);refine ⟨ad,e,hb,fun j u hu=>hc j u ?_⟩;rw[List.getElem?_take] at hu;split at hu
  ·exact hu
  ·cases hu
 ·rw[List.getElem?_take] at hi;split at hi
  ·obtain ⟨Ai,ci,e,hs⟩:=h.each i p hi;exact ⟨Ai,ci,by rw[List.getElem?_take,if_pos (by assumption)];exact e,hs⟩
  ·cases hi
def Cj (bs:List Bool) (Inv:World→Prop) (e:Ending) (w':World):Prop:=
 ((∃k:Nat,e= .returned (.int .i64 k)∧bs.all id=false)∨(e= .returned (.int .i64 (-1))∧bs.all id=true))∧Inv w'
set_option maxHeartbeats 400000 in
theorem DC (b:Nat) (jN:List Value) (bs:List Bool) (Inv:World→Prop) (w:World) (hlen:bs.length=jN.length) (hsm:jN.length≤1000) (hI:∀W,Inv W→au W b 26 jN.toArray)
 (hcall:∀(i:Nat) (fv:Value) (x:Bool) (W:World),jN[i]? =some fv→bs[i]? =some x→(∀y∈bs.take i,y=true)→Inv W→Calls Tryz.prog 223 #[fv] W fun e W'=>e= .returned (.bool (!x))∧Inv W')
 (h0:Inv w):Calls Tryz.prog 221 #[.slice (some ⟨b,0,none⟩) jN.length jN.length,.func (.func 223) #[] #[]] w (Cj bs Inv):=by
 have HC:=ah hcall;have HI:=ah hI;have HL:=ah hlen;clear hcall hI hlen;obtain ⟨N,hN⟩:∃N,N=jN.length:=⟨_,rfl⟩
 rw[←hN] at hsm ⊢;have HN:=ah hN;clear hN;go_enter Tryz.func221,Tryz.ntmps221;go_wp2
 go_loopw [8] (fun i wr=>∃k:Nat,k≤N∧i= .int .i64 k∧(∀y∈bs.take k,y=true)∧Inv wr) (fun i _=>N-(intOf i).toNat)
 case atStart=>exact ⟨0,Nat.zero_le _,rfl,by simp,h0⟩
 case round=>
  clear h0;obtain ⟨k,hk,rfl,hall,hinv⟩:=hrel;have HA:=ah hall;clear hall;by_cases hlt:k<N
  ·obtain ⟨fv,iw⟩:∃fv,jN[k]? =some fv:=⟨_,List.getElem?_eq_getElem (by rw[←HN.out];exact hlt)⟩
   obtain ⟨x,hx⟩:∃x,bs[k]? =some x:=⟨_,List.getElem?_eq_getElem (by rw[HL.out,←HN.out];exact hlt)⟩
   have hcl:=HC.out k fv x wr iw hx HA.out hinv;have hcell:=(HI.out wr hinv).cell k;rw[List.getElem?_toArray,iw] at hcell;have pV:=ah hcl;have HX:=ah hx;clear hcl iw hx;cases x with
   |true=>
    go_wp2_with (go_at_call 223;refine pV.out.mono ?_;rintro e w' ⟨rfl,hi'⟩)
    go_roundw
    case rel=>exact ⟨k+1,by omega,by go_num,by
     intro y hy;rw[List.take_add_one,HX.out,List.mem_append] at hy;rcases hy with hy|hy
     ·exact HA.out y hy
     ·simpa using hy,hi'⟩
    case measure=>simp[intOf];omega
   |false=>
    go_wp2_with (go_at_call 223;refine pV.out.mono ?_;rintro e w' ⟨rfl,hi'⟩);go_ret;refine ⟨.inl ⟨k,rfl,?_⟩,hi'⟩;rw[List.all_eq_false];exact ⟨false,List.mem_of_getElem? HX.out,by simp⟩
  ·have e:bs.take k=bs:=List.take_of_length_le (by rw[HL.out,←HN.out];omega);have hA:=HA.out;rw[e] at hA;have xP:=ah hA;clear hA e;go_wp2;go_ret;exact ⟨.inr ⟨rfl,by rw[List.all_eq_true];exact xP.out⟩,hinv⟩
theorem xu (b:Nat) (jN:List Value) (bs:List Bool) (Inv:World→Prop) (w:World)
 (h:Calls Tryz.prog 221 #[.slice (some ⟨b,0,none⟩) jN.length jN.length,.func (.func 223) #[] #[]] w (Cj bs Inv)):
 Calls Tryz.prog 206 #[.slice (some ⟨b,0,none⟩) jN.length jN.length,.func (.func 223) #[] #[]] w fun e w'=>e= .returned (.bool (!bs.all id))∧Inv w':=by
 have H:=ah h;clear h;go_enter Tryz.func206,Tryz.ntmps206;go_wp2_with fail;refine H.out.mono ?_;rintro e w' ⟨⟨k,rfl,ha⟩|⟨rfl,ha⟩,hi⟩
 ·have HA:=ah ha;clear ha;go_wp2;go_ret;exact ⟨bI (by rw[HA.out];rfl),hi⟩
 ·have HA:=ah ha;clear ha;go_wp2;go_ret;exact ⟨bI (by rw[HA.out];rfl),hi⟩
theorem RD (b:Nat) (jN:List Value) (bs:List Bool) (Inv:World→Prop) (w:World)
 (h:Calls Tryz.prog 206 #[.slice (some ⟨b,0,none⟩) jN.length jN.length,.func (.func 223) #[] #[]] w fun e w'=>e= .returned (.bool (!bs.all id))∧Inv w'):
 Calls Tryz.prog 213 #[.slice (some ⟨b,0,none⟩) jN.length jN.length] w fun e w'=>e= .returned (.bool (bs.all id))∧Inv w':=by
 have H:=ah h;clear h;go_enter Tryz.func213,Tryz.ntmps213;go_wp2_with fail;refine H.out.mono ?_;rintro e w' ⟨rfl,hi⟩;go_wp2;go_ret;exact ⟨bI (by simp),hi⟩
end Go.Proofs.YtbhiklnljiehiaaGreat
namespace Go.Proofs.YtbhiklnljiehiaaGreat
open Go.RowKit
def lC (ps:List (List UInt8)):List Bool:=
 [decide (1≤ps.length∧ps.length≤64),!(ps.any fun p=>jc p.length),!((ps.take (ps.length-1)).any fun p=>lz p.length),decide (aj ps≤32767)]
def mG (ps:List (List UInt8)):Bool:=(lC ps).all id
theorem VG (bn n:Nat) (w:World) (h:au w bn 3 #[.int .i64 n]):
 Calls Tryz.prog 214 #[.pointer (some ⟨bn,0,none⟩)] w fun e w'=>e= .returned (.bool (decide (1≤n∧n≤64)))∧w=w':=by
 have hc:=h.cell 0;simp at hc;by_cases h1:1≤n
 ·by_cases h2:n≤64
  ·have hd:decide (1≤n∧n≤64)=true:=by simp;omega
   rw[hd];clear hd;go_enter Tryz.func214,Tryz.ntmps214;go_wp2;go_ret;exact ⟨bI (by simp;omega),rfl⟩
  ·have hd:decide (1≤n∧n≤64)=false:=by simp;omega
   rw[hd];clear hd;go_enter Tryz.func214,Tryz.ntmps214;go_wp2;go_ret;exact ⟨bI (by simp;omega),rfl⟩
 ·have hd:decide (1≤n∧n≤64)=false:=by simp;omega
  rw[hd];clear hd;go_enter Tryz.func214,Tryz.ntmps214;go_wp2;go_ret;exact ⟨rfl,rfl⟩
theorem VH (bc be:Nat) (s e:Bool) (A:Option Addr) (n c:Nat) (vs:List Value) (ps:List (List UInt8)) (w:World) (h:iO w w.heap.size A n c vs ps)
 (hc:au w bc 145 #[.bool s,.bool e,.slice A n c]) (he:au w be 288 #[.func (.func 211) #[] #[]]):
 Calls Tryz.prog 215 #[.pointer (some ⟨bc,0,none⟩),.pointer (some ⟨be,0,none⟩)] w fun e w'=>e= .returned (.bool (!(ps.any fun p=>jc p.length)))∧w=w':=by
 have hc2:=hc.cell 2;have he0:=he.cell 0;simp at hc2 he0;have hct:=tO A n c vs ps w h;have HC:=ah hct;clear hct;generalize (ps.any fun p=>jc p.length)=r at*;go_enter Tryz.func215,Tryz.ntmps215;go_wp2_with (go_at_call 216;refine HC.out.mono ?_;rintro e w' ⟨rfl,rfl⟩);go_ret;exact ⟨rfl,rfl⟩
set_option maxHeartbeats 400000 in
theorem VI (bc bn bl:Nat) (s e:Bool) (A:Option Addr) (n c:Nat) (vs:List Value) (ps:List (List UInt8)) (w:World) (h:iO w w.heap.size A n c vs ps)
 (hc:au w bc 145 #[.bool s,.bool e,.slice A n c]) (hn:au w bn 3 #[.int .i64 n]) (hl:au w bl 288 #[.func (.func 212) #[] #[]]) (h1:1≤n):
 Calls Tryz.prog 217 #[.pointer (some ⟨bc,0,none⟩),.pointer (some ⟨bn,0,none⟩),.pointer (some ⟨bl,0,none⟩)] w fun e w'=>e= .returned (.bool (!((ps.take (n-1)).any fun p=>lz p.length)))∧Below w.heap.size w w':=by
 have hc2:=hc.cell 2;have hn0:=hn.cell 0;have hl0:=hl.cell 0;simp at hc2 hn0 hl0;have hcap:=h.sl.cap;have hmx:=h.sl.mx;obtain ⟨m,rfl⟩:∃m,n=m+1:=⟨n-1,by omega⟩
 have hct:=fun W (hW:iO W W.heap.size A (m+1) c vs ps)=>vk A m m _ _ W (hW.pre (k:=m) (by omega))
 have e1:m+1-1=m:=by omega
 rw[e1];generalize ((ps.take m).any fun p=>lz p.length)=r at*;have HC:=ah hct;clear hct e1;have e2:((m:Int)+1-1)=m:=by omega
 have e3:IntKind.i64.wrap ((m:Int)+1-1)=m:=by rw[e2];exact IntWalk.i64_in _ (by omega)
 go_enter Tryz.func217,Tryz.ntmps217;go_wp2
 go_quiet ((go_at_call 216;exact Calls.quiet_of_same ((HC.out _ (h.iy _)).mono fun _ _ hh=>⟨hh.1,hh.2.symm⟩)))
 go_wp2;go_ret;exact ⟨rfl,(Below.refl _ w).drewN _⟩
theorem VJ (bc:Nat) (s e:Bool) (A:Option Addr) (n c:Nat) (vs:List Value) (ps:List (List UInt8)) (w:World) (h:iO w w.heap.size A n c vs ps) (hn:n≤1048576) (hle:∀p∈ps,p.length≤1099511627776)
 (hc:au w bc 145 #[.bool s,.bool e,.slice A n c]):
 Calls Tryz.prog 218 #[.pointer (some ⟨bc,0,none⟩)] w fun e w'=>e= .returned (.bool (decide (aj ps≤32767)))∧Below w.heap.size w w':=by
 have hc0:=hc.cell 0;have hc1:=hc.cell 1;have hc2:=hc.cell 2;simp at hc0 hc1 hc2;have hsz:=pU s e A n c vs ps w h hn hle;have HZ:=ah hsz;clear hsz hle;generalize aj ps=S at*;have hd:decide ((S:Int)≤32767)=decide (S≤32767):=by simp;omega
 generalize hr:decide (S≤32767)=r at*;clear hr;go_enter Tryz.func218,Tryz.ntmps218;go_wp2_with (go_at_call 88;refine HZ.out.mono ?_;rintro e w' ⟨rfl,hb⟩);go_ret
 first|exact ⟨rfl,hb⟩|exact ⟨bI hd,hb⟩
theorem VK (bn:Nat) (x:Bool) (w:World) (h:Calls Tryz.prog 214 #[.pointer (some ⟨bn,0,none⟩)] w fun e w'=>e= .returned (.bool x)∧Below w.heap.size w w'):
 Calls Tryz.prog 223 #[.func (.func 214) #[] #[.pointer (some ⟨bn,0,none⟩)]] w fun e w'=>e= .returned (.bool (!x))∧Below w.heap.size w w':=by
 have H:=ah h;clear h;go_enter Tryz.func223,Tryz.ntmps223;go_wp2_with (go_at_call 214;refine H.out.mono ?_;rintro e w' ⟨rfl,hb⟩);go_ret;exact ⟨rfl,hb⟩
theorem VL (bc be:Nat) (x:Bool) (w:World) (h:Calls Tryz.prog 215 #[.pointer (some ⟨bc,0,none⟩),.pointer (some ⟨be,0,none⟩)] w fun e w'=>e= .returned (.bool x)∧Below w.heap.size w w'):
 Calls Tryz.prog 223 #[.func (.func 215) #[] #[.pointer (some ⟨bc,0,none⟩),.pointer (some ⟨be,0,none⟩)]] w fun e w'=>e= .returned (.bool (!x))∧Below w.heap.size w w':=by
 have H:=ah h;clear h;go_enter Tryz.func223,Tryz.ntmps223;go_wp2_with (go_at_call 215;refine H.out.mono ?_;rintro e w' ⟨rfl,hb⟩);go_ret;exact ⟨rfl,hb⟩
theorem VM (bc bn bl:Nat) (x:Bool) (w:World) (h:Calls Tryz.prog 217 #[.pointer (some ⟨bc,0,none⟩),.pointer (some ⟨bn,0,none⟩),.pointer (some ⟨bl,0,none⟩)] w fun e w'=>e= .returned (.bool x)∧Below w.heap.size w w'):
 Calls Tryz.prog 223 #[.func (.func 217) #[] #[.pointer (some ⟨bc,0,none⟩),.pointer (some ⟨bn,0,none⟩),.pointer (some ⟨bl,0,none⟩)]] w fun e w'=>e= .returned (.bool (!x))∧Below w.heap.size w w':=by
 have H:=ah h;clear h;go_enter Tryz.func223,Tryz.ntmps223;go_wp2_with (go_at_call 217;refine H.out.mono ?_;rintro e w' ⟨rfl,hb⟩);go_ret;exact ⟨rfl,hb⟩
theorem VN (bc:Nat) (x:Bool) (w:World) (h:Calls Tryz.prog 218 #[.pointer (some ⟨bc,0,none⟩)] w fun e w'=>e= .returned (.bool x)∧Below w.heap.size w w'):
 Calls Tryz.prog 223 #[.func (.func 218) #[] #[.pointer (some ⟨bc,0,none⟩)]] w fun e w'=>e= .returned (.bool (!x))∧Below w.heap.size w w':=by
 have H:=ah h;clear h;go_enter Tryz.func223,Tryz.ntmps223;go_wp2_with (go_at_call 218;refine H.out.mono ?_;rintro e w' ⟨rfl,hb⟩);go_ret;exact ⟨rfl,hb⟩
theorem Lx (bc bn be bl b:Nat) (s e:Bool) (A:Option Addr) (n c:Nat) (vs:List Value) (ps:List (List UInt8)) (w:World) (h:iO w w.heap.size A n c vs ps) (hn:n≤1048576) (hle:∀p∈ps,p.length≤1099511627776)
 (hbc:au w bc 145 #[.bool s,.bool e,.slice A n c]) (hbn:au w bn 3 #[.int .i64 n]) (hbe:au w be 288 #[.func (.func 211) #[] #[]]) (hbl:au w bl 288 #[.func (.func 212) #[] #[]])
 (hb:au w b 26 #[.func (.func 214) #[] #[.pointer (some ⟨bn,0,none⟩)],.func (.func 215) #[] #[.pointer (some ⟨bc,0,none⟩),.pointer (some ⟨be,0,none⟩)],
  .func (.func 217) #[] #[.pointer (some ⟨bc,0,none⟩),.pointer (some ⟨bn,0,none⟩),.pointer (some ⟨bl,0,none⟩)],.func (.func 218) #[] #[.pointer (some ⟨bc,0,none⟩)]]):
 Calls Tryz.prog 213 #[.slice (some ⟨b,0,none⟩) 4 4] w fun e w'=>e= .returned (.bool (mG ps))∧Below w.heap.size w w':=by
 refine RD b [.func (.func 214) #[] #[.pointer (some ⟨bn,0,none⟩)],.func (.func 215) #[] #[.pointer (some ⟨bc,0,none⟩),.pointer (some ⟨be,0,none⟩)],
  .func (.func 217) #[] #[.pointer (some ⟨bc,0,none⟩),.pointer (some ⟨bn,0,none⟩),.pointer (some ⟨bl,0,none⟩)],.func (.func 218) #[] #[.pointer (some ⟨bc,0,none⟩)]] (lC ps) (fun W=>Below w.heap.size w W) w ?_
 refine xu b _ (lC ps) (fun W=>Below w.heap.size w W) w ?_;refine DC b _ (lC ps) (fun W=>Below w.heap.size w W) w rfl (by simp) (fun W hW=>hb.below hW hb.lt) ?_ (Below.refl _ _);have hl:=h.len;intro i fv x W iw hx hpre hW;have hS:=(h.below hW).more hW.size;have key:Calls Tryz.prog 223 #[fv] W fun e W'=>e= .returned (.bool (!x))∧Below W.heap.size W W':=by
  match i,iw,hx,hpre with
  |0,iw,hx,_=>
   simp only[lC,List.getElem?_cons_zero,Option.some.injEq] at iw hx;subst iw hx;refine VK bn _ W ((VG bn n W (hbn.below hW hbn.lt)).mono fun e W' hh=>⟨?_,by rw[←hh.2];exact Below.refl _ _⟩);rw[hh.1,hl]
  |1,iw,hx,_=>
   simp only[lC,List.getElem?_cons_zero,List.getElem?_cons_succ,Option.some.injEq] at iw hx;subst iw hx;exact VL bc be _ W ((VH bc be s e A n c vs ps W hS (hbc.below hW hbc.lt) (hbe.below hW hbe.lt)).mono fun e W' hh=>⟨hh.1,by rw[←hh.2];exact Below.refl _ _⟩)
  |2,iw,hx,hpre=>
   have h1:1≤n:=by
    have:=hpre (decide (1≤ps.length∧ps.length≤64)) (by simp[lC]);simp at this;omega
   simp only[lC,List.getElem?_cons_zero,List.getElem?_cons_succ,Option.some.injEq] at iw hx;subst iw hx;rw[hl];exact VM bc bn bl _ W (VI bc bn bl s e A n c vs ps W hS (hbc.below hW hbc.lt) (hbn.below hW hbn.lt) (hbl.below hW hbl.lt) h1)
  |3,iw,hx,_=>
   simp only[lC,List.getElem?_cons_zero,List.getElem?_cons_succ,Option.some.injEq] at iw hx;subst iw hx;exact VN bc _ W (VJ bc s e A n c vs ps W hS hn hle (hbc.below hW hbc.lt))
  |i+4,iw,_,_=>simp at iw
 exact key.mono fun e W' hh=>⟨hh.1,hW.trans (hh.2.mono hW.size)⟩
set_option maxHeartbeats 800000 in
theorem LB (s e:Bool) (A:Option Addr) (n c:Nat) (vs:List Value) (ps:List (List UInt8)) (w:World) (h:iO w w.heap.size A n c vs ps) (hn:n≤1048576) (hle:∀p∈ps,p.length≤1099511627776):
 Calls Tryz.prog 195 #[.agg #[.bool s,.bool e,.slice A n c]] w fun e w'=>e= .returned (.bool (mG ps))∧Below w.heap.size w w':=by
 have VO:=ah hle;clear hle;have hK:=((((Kept.refl (fun k _=>w.heap.size≤k) w).alloc (.cells #[.bool s,.bool e,.slice A n c] 145)).alloc (.cells #[.int .i64 n] 3)).alloc (.cells #[.func (.func 211) #[] #[]] 288)).alloc (.cells #[.func (.func 212) #[] #[]] 288);have hB:=(hK.alloc (.cells #[.func (.func 214) #[] #[.pointer (some ⟨w.heap.size+1,0,none⟩)],.func (.func 215) #[] #[.pointer (some ⟨w.heap.size,0,none⟩),.pointer (some ⟨w.heap.size+1+1,0,none⟩)],
  .func (.func 217) #[] #[.pointer (some ⟨w.heap.size,0,none⟩),.pointer (some ⟨w.heap.size+1,0,none⟩),.pointer (some ⟨w.heap.size+1+1+1,0,none⟩)],.func (.func 218) #[] #[.pointer (some ⟨w.heap.size,0,none⟩)]] 26)).below (B:=w.heap.size) (fun _ _ h=>h) (aN)
 clear hK;have b0:=au.new w 145 #[.bool s,.bool e,.slice A n c];have b1:=au.new (w.alloc (.cells #[.bool s,.bool e,.slice A n c] 145)) 3 #[.int .i64 n];have b2:=au.new ((w.alloc (.cells #[.bool s,.bool e,.slice A n c] 145)).alloc (.cells #[.int .i64 n] 3)) 288 #[.func (.func 211) #[] #[]];have b3:=au.new (((w.alloc (.cells #[.bool s,.bool e,.slice A n c] 145)).alloc (.cells #[.int .i64 n] 3)).alloc (.cells #[.func (.func 211) #[] #[]] 288)) 288 #[.func (.func 212) #[] #[]];have b4:=au.new ((((w.alloc (.cells #[.bool s,.bool e,.slice A n c] 145)).alloc (.cells #[.int .i64 n] 3)).alloc (.cells #[.func (.func 211) #[] #[]] 288)).alloc (.cells #[.func (.func 212) #[] #[]] 288)) 26 #[.func (.func 214) #[] #[.pointer (some ⟨w.heap.size+1,0,none⟩)],.func (.func 215) #[] #[.pointer (some ⟨w.heap.size,0,none⟩),.pointer (some ⟨w.heap.size+1+1,0,none⟩)],
  .func (.func 217) #[] #[.pointer (some ⟨w.heap.size,0,none⟩),.pointer (some ⟨w.heap.size+1,0,none⟩),.pointer (some ⟨w.heap.size+1+1+1,0,none⟩)],.func (.func 218) #[] #[.pointer (some ⟨w.heap.size,0,none⟩)]]
 simp only[World.size_alloc] at b1 b2 b3 b4;have hall:=Lx w.heap.size (w.heap.size+1) (w.heap.size+1+1) (w.heap.size+1+1+1) (w.heap.size+1+1+1+1) s e A n c vs ps _ ((h.below hB).more hB.size) hn VO.out ((((b0.alloc _).alloc _).alloc _).alloc _) (((b1.alloc _).alloc _).alloc _) ((b2.alloc _).alloc _) (b3.alloc _) b4;have mZ:=ah hall;have HB:=ah hB;clear hall b0 b1 b2 b3 b4 hB;generalize mG ps=r at*;go_enter Tryz.func195,Tryz.ntmps195;go_wp2_with (go_at_call 213;refine mZ.out.mono ?_;rintro e w' ⟨rfl,hb⟩);go_ret;exact ⟨rfl,HB.out.trans (hb.mono HB.out.size)⟩
end Go.Proofs.YtbhiklnljiehiaaGreat
namespace Go.Proofs.YtbhiklnljiehiaaGreat
open Go.RowKit
def ng (ps:List (List UInt8)) (i:Nat):List (Nat × Nat):= [((decide (i+2<ps.length)).toNat,1),((ps[i]?.getD []).length,11)]
def dQ (ps:List (List UInt8)) (k:Nat):List Bool:=(List.range k).flatMap fun i=>aH (ng ps i)
theorem DD (ps:List (List UInt8)) (k:Nat):dQ ps (k+1)=dQ ps k++aH (ng ps k):=by simp[dQ,List.range_succ]
theorem pW (ps:List (List UInt8)) (k:Nat):(dQ ps k).length=12*k:=by
 unfold dQ;rw[List.length_flatMap];have:∀i,(aH (ng ps i)).length=12:=fun i=>by simp[aH,ng]
 simp only[this,List.map_const',List.length_range,List.sum_replicate_nat];omega
theorem gW {ps:List (List UInt8)} {p:List UInt8} (h:p∈ps):p.length≤aj ps:=by
 induction ps with
 |nil=>cases h
 |cons q ps ih=>
  unfold aj at ih ⊢;rw[List.map_cons,List.sum_cons];rcases List.mem_cons.1 h with rfl|h
  ·omega
  ·have:=ih h;omega
structure rV (ps:List (List UInt8)):Prop where
 lo:1≤ps.length
 hi:ps.length≤64
 pos:∀p∈ps,1≤p.length
 short:∀i,i+1<ps.length→(ps[i]?.getD []).length≤2047
 sum:aj ps≤32767
theorem nT (ps:List (List UInt8)):mG ps=true↔rV ps:=by
 unfold mG lC;simp only[List.all_cons,List.all_nil,Bool.and_true,id,Bool.and_eq_true,Bool.not_eq_true',decide_eq_true_eq,List.any_eq_false,Bool.not_eq_true];constructor
 ·rintro ⟨⟨h1,h2⟩,h3,h4,h5⟩;refine ⟨h1,h2,fun p hp=> ?_,fun i hi=> ?_,h5⟩
  ·have:=h3 p hp;simp[jc] at this;cases p with
   |nil=>exact absurd rfl this
   |cons=>simp
  ·have:=h4 (ps[i]?.getD []) (by
    rw[List.getElem?_eq_getElem (by omega)];show ps[i]∈_
    rw[List.mem_take_iff_getElem];exact ⟨i,by omega,rfl⟩)
   simp[lz] at this;omega
 ·rintro ⟨h1,h2,h3,h4,h5⟩;refine ⟨⟨h1,h2⟩,fun p hp=> ?_,fun p hp=> ?_,h5⟩
  ·have:=h3 p hp;simp[jc];rintro rfl;simp at this
  ·rw[List.mem_take_iff_getElem] at hp;obtain ⟨i,hi,rfl⟩:=hp;have:=h4 i (by omega);rw[List.getElem?_eq_getElem (by omega)] at this;simp[lz];simpa using this
def pX (B:Nat) (t:TypeId) (w:World) (n:Nat) (xs:List Value) (er:Int) (e:Ending) (w':World):Prop:=
 ∃v,e= .returned (.tuple #[v,.int .i64 er])∧w'.ownsRow B t 1 v n xs∧Below B w w'
end Go.Proofs.YtbhiklnljiehiaaGreat
