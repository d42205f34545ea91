/- umpdu: Header, Lengths, Size. umpdu.Valid: the two predicates, IndexFunc, ContainsFunc. Printed by wip/gen_u1.py. umpdu.Valid: conditions that are closures, all of them. umpdu.Valid. umpdu.Encode. Plain mathematics: what a transmitter's chunk is, and how its parts join. amsend: what a transmitter computes (plain functions). amsend: what holds between the calls; AmsendHolds (plain). -/
import Derived.Test.YtbhiklnljiehiaaGreatM0ab
import Derived.Laws.EntriesVeiled
import Derived.StillTailTactics
import Derived.Deep.RegionHeld3
namespace Go.Proofs.YtbhiklnljiehiaaGreat
open Go.RowKit Go.Shelf
attribute [local go_sem] Oper.semAt_some
theorem xE:(Tryz.prog.info? 3).map (fun i=>(i.zero,i.size,i.bytes))=some (some (.int .i64 0),1,8):=by kernel_rfl
theorem Gp:Tryz.prog.underlying 75=some (.slice 3):=by kernel_rfl
theorem lN {k:IntKind} {a b:Int} (h:a=b):Ending.returned (.int k a)= .returned (.int k b):=by rw[h]
theorem bu {a b:Bool} (h:a=b):Ending.returned (.bool a)= .returned (.bool b):=by rw[h]
def iG (n:Int):Int:=if n<1∨64<n then 0 else 2+(12*(n-1)+7)/8
set_option maxHeartbeats 400000 in
theorem Gq (n:Int) (w:World) (h: -9223372036854775808≤n∧n≤9223372036854775807):
 Calls Tryz.prog 168 #[.int .i64 n] w fun e w'=>e= .returned (.int .i64 (iG n))∧w=w':=by
 have hfin:iG n=if n<1∨64<n then 0 else 2+(12*(n-1)+7)/8:=rfl
 have HF:=Lib.hid hfin;clear hfin;generalize iG n=r at*;by_cases h1:n<1
 ·go_enter Tryz.func168,Tryz.ntmps168;go_wp2;go_ret;exact ⟨lN (by rw[HF.out,if_pos (by omega)]),rfl⟩
 ·by_cases h2:64<n
  ·go_enter Tryz.func168,Tryz.ntmps168;go_wp2;go_ret;exact ⟨lN (by rw[HF.out,if_pos (by omega)]),rfl⟩
  ·go_enter Tryz.func168,Tryz.ntmps168;go_wp2;go_ret;exact ⟨lN (by rw[HF.out,if_neg (by omega)]),rfl⟩
def lens (ps:List (List UInt8)):List Value:=ps.map fun p=> .int .i64 (p.length:Nat)
theorem JC (ps:List (List UInt8)) (k:Nat) (h:k<ps.length):lens (ps.take (k+1))=lens (ps.take k)++ [.int .i64 ((ps[k]?.getD []).length:Nat)]:=by
 unfold lens;rw[List.take_add_one,List.getElem?_eq_getElem h,List.map_append];rfl
def JD (w:World) (ps:List (List UInt8)) (e:Ending) (w':World):Prop:=
 ∃g v,e= .returned (.func (.func 170) #[] #[.pointer (some ⟨g,0,none⟩)])∧w.heap.size≤g∧au w' g 75 #[v]∧w'.ownsRow w.heap.size 3 1 v ps.length (lens ps)∧Below w.heap.size w w'
set_option maxRecDepth 3000 in
set_option maxHeartbeats 1000000 in
theorem Eb (s e:Bool) (A:Option Addr) (n c:Nat) (vs:List Value) (ps:List (List UInt8)) (w:World) (h:jg w w.heap.size A n c vs ps) (hn:n≤1048576):
 Calls Tryz.prog 130 #[.agg #[.bool s,.bool e,.slice A n c]] w (JD w ps):=by
 obtain ⟨i0,hi,hz0,hz1,hz2⟩:=info_parts xE;have HL:=Lib.hid h.len;have hA:=h.alloc (Nat.le_refl _) (.cells #[.bool s,.bool e,.slice A n c] 145);go_enter Tryz.func130,Tryz.ntmps130;go_wp2
 go_loopw [9] (fun i wr=>∃(k:Nat) (v:Value),k≤n∧i= .int .i64 k∧au wr w.heap.size 145 #[.bool s,.bool e,.slice A n c]∧au wr (w.heap.size+1) 75 #[v]∧wr.ownsRow w.heap.size 3 1 v k (lens (ps.take k))∧Below w.heap.size w wr) (fun i _=>n-(intOf i).toNat)
 case atStart=>exact ⟨0,_,Nat.zero_le _,rfl,(au.new w _ _).alloc _,by simpa using au.new (w.alloc (.cells #[.bool s,.bool e,.slice A n c] 145)) 75 #[.slice none 0 0],World.ownsRow_nil _ _ _ _,((Below.refl _ w).alloc (Nat.le_refl _) _).alloc (by simp) _⟩
 case round=>
  obtain ⟨k,v,hk,rfl,hb0,hb1,hown,hbw⟩:=hrel;by_cases hlt:k<n
  ·obtain ⟨ad,Ai,ci,rfl,hb,hc,hsl⟩:=(h.below hbw).get hlt;have hs1:=JC ps k (by rw[HL.out];exact hlt);have hl:(ps[k]?.getD []).length≤9223372036854775807:=by have:=hsl.cap;have:=hsl.mx;omega
   generalize ps[k]?.getD []=p at*;generalize lens (List.take k ps)=L at*;have AU:=Lib.hid hs1;clear hs1;have c1:=hb1.cell 0;have f1:=hb1.frozen 0;simp at c1;go_wp2_with (at_builtin;refine wpList_append_own _ rfl _ _ 75 rfl w.heap.size 3 i0 (.int .i64 0) 1 8 Gp hi hz0 hz1 hz2 rfl (by decide) _ _ _ rfl (hown.alloc _) ⟨wr.heap.size,0,none⟩ 1 1 [.int .i64 (p.length:Nat)] rfl rfl ?c1 ?c2 ?c3 ?c4 ?c5 ?_)
   case c1=>exact cell_one_new _ _ _
   case c2=>simp[Value.oneCell']
   case c3=>unfold maxLen;omega
   case c4=>omega
   case c5=>have:=hbw.size;simp;omega
   intro v' w2 hown' hgrow _;have hne:v.ownBlock≠some (w.heap.size+1):=aI hown hb1 (by decide);have hne0:v.ownBlock≠some w.heap.size:=aI hown hb0 (by decide);have hb1':=(hb1.alloc (.cells #[.int .i64 (p.length:Nat)] 3)).grown hgrow (fun e=>hne e.symm);have abp:=(hb0.alloc (.cells #[.int .i64 (p.length:Nat)] 3)).grown hgrow (fun e=>hne0 e.symm);have abq:=(hbw.alloc hbw.size (.cells #[.int .i64 (p.length:Nat)] 3)).grown hgrow (by have:=hbw.size;simp;omega) (fun j hj=>(hown.lt j hj).1);have c1':=hb1'.cell 0;have f1':=hb1'.frozen 0;simp at c1';obtain ⟨g',cap',rfl,hgl,kz⟩:=hown'.form (by omega);go_wp2
   go_roundw
   case rel=>
    refine ⟨k+1,_,by omega,by go_num,abp.far (by simp) _,by simpa using hb1'.av 0 (.slice (some ⟨g',0,none⟩) (k+1) cap'),?_,abq.setCell (p:=⟨w.heap.size+1,0,none⟩) (by simp) _⟩;rw[AU.out];exact hown'.kept (aM _ _ 0 _) (.inr (aI hown' hb1' (by decide)))
   case measure=>simp[intOf];omega
  ·have e:ps.take k=ps:=List.take_of_length_le (by rw[HL.out];omega);have hkn:k=ps.length:=by rw[HL.out];omega
   rw[e,hkn] at hown;clear e hkn;go_wp2;go_ret;exact ⟨_,_,rfl,by omega,hb1,hown,hbw⟩
abbrev IL:= {x:Nat × Nat//x.2≤1099511627776}
def xG (ps:List (List UInt8)) (h:∀p∈ps,p.length≤1099511627776) (k:Nat):List IL:=
 (List.range k).map fun i=>⟨(i,(ps[i]?.getD []).length),by
  rcases Nat.lt_or_ge i ps.length with hi|hi
  ·rw[List.getElem?_eq_getElem hi];exact h _ (List.getElem_mem hi)
  ·rw[List.getElem?_eq_none hi];simp⟩
theorem AV (ps:List (List UInt8)) (h:∀p∈ps,p.length≤1099511627776) (k:Nat) (x:IL) (hx:x.1=(k,(ps[k]?.getD []).length)):xG ps h (k+1)=xG ps h k++ [x]:=by
 unfold xG;rw[List.range_succ,List.map_append]
 congr 1
 simp only[List.map_cons,List.map_nil,List.cons.injEq,and_true];exact Subtype.ext hx.symm
theorem Ec (ps:List (List UInt8)) (h:∀p∈ps,p.length≤1099511627776) (k:Nat):(xG ps h k).length=k:=by simp[xG]
set_option maxRecDepth 100000 in
set_option maxHeartbeats 2000000 in
theorem xH (n:Nat) (hn:1≤n) (g B:Nat) (v:Value) (ps:List (List UInt8)) (hle:∀p∈ps,p.length≤1099511627776) (hlen:ps.length≤1048576) (M:Nat→Obj→Prop) (w:World)
 (hg:au w g 75 #[v]) (hv:w.ownsRow B 3 1 v ps.length (lens ps)) (hMg:¬M g (.cells #[v] 75 (0,0))) (OU:∀k o,v.ownBlock=some k→¬M k o):
 SeqStopsK Fence.wide n Tryz.prog 170 #[.pointer (some ⟨g,0,none⟩)] (fun x:IL=> #[Value.int .i64 (x.1.1:Nat),.int .i64 (x.1.2:Nat)]) (Kept M)
  (fun xs=>xs=xG ps hle ps.length) (fun pre=>∃k,k≤ps.length∧pre=xG ps hle k) ps.length w:=fun l J Jx W hW _ _ hY h0=>by
 have hg':=hg.below hW hg.lt;have hv':W.ownsRow B 3 1 v ps.length (lens ps):=hv.kept (row:=none) ⟨hW.os,hW.tape,hW.output,hW.size,fun k hk _=>hW.block k hk⟩ (by
  rcases hb:v.ownBlock with _|k
  ·exact .inl rfl
  ·exact .inr (by simp))
 have hvk:∀wr,Kept M W wr→wr.ownsRow B 3 1 v ps.length (lens ps):=by
  intro wr hk;rcases hv'.2 with ⟨rfl,h0⟩|⟨g',cap,cur,rfl,h1,h2,h3⟩
  ·exact ⟨hv'.1,.inl ⟨rfl,h0⟩⟩
  ·exact ⟨hv'.1,.inr ⟨g',cap,cur,rfl,h1,hk.same _ _ h2 (OU _ _ rfl),h3⟩⟩
 have WH:=Lib.hid hvk;clear hvk;obtain ⟨A,c,rfl,hsl,_⟩:=aZ hv';refine callsIn_of_wp Tryz.func170 rfl trivial ?_ rfl;simp only[Tryz.ntmps170,List.size_toArray,List.length_cons,List.length_nil,Nat.reduceAdd,Nat.reduceSub,Array.replicate_succ,Array.replicate_zero,List.push_toArray,List.append_toArray,List.nil_append,List.cons_append];have hcw:=hg'.cell 0;simp at hcw;refine jY ?_
 gi_wp2
 refine wpIn_label ?_
 gi_wp2
 gi_loopw [7] (fun i wr=>∃k:Nat,k≤ps.length∧i= .int .i64 k∧J (xG ps hle k) wr∧Kept M W wr)
  (fun i _=>ps.length-(intOf i).toNat)
 case atStart=>exact ⟨0,Nat.zero_le _,by simp,by simpa[xG] using h0,Kept.refl _ _⟩
 case round=>
  obtain ⟨k,hk,rfl,hJs,hnx⟩:=hrel;by_cases hlt:k<ps.length
  ·obtain ⟨A',c',e',hs',_⟩:=aZ (WH.out wr hnx);injection e' with e1 e2 e3
   subst e1 e3;obtain ⟨ad,u,rfl,_,hu,hcell⟩:=hs'.get hlt;have hp:(ps[k]?.getD []).length≤1099511627776:=by
    rw[List.getElem?_eq_getElem hlt];exact hle _ (List.getElem_mem _)
   have hu':u= .int .i64 ((ps[k]?.getD []).length:Nat):=by
    unfold lens at hu;rw[List.getElem?_map,List.getElem?_eq_getElem hlt] at hu;rw[List.getElem?_eq_getElem hlt];simpa using hu.symm
   have hsucc:=AV ps hle k ⟨(k,(ps[k]?.getD []).length),hp⟩ rfl;have IX:=hY _ ⟨(k,(ps[k]?.getD []).length),hp⟩ wr hJs (by rw[Ec];exact hlt);rw[hu'] at hcell;clear hu hu';have Ro:=Lib.hid hsucc;clear hsucc;generalize (ps[k]?.getD []).length=m at*;obtain ⟨fn,tmps,assign,body,hy,hR⟩:=IX;dsimp only at hy
   gi_wp2
   refine hR.mono ?_;rintro e W3 (⟨rfl,hJ3,hk3⟩|⟨rfl,hJx3⟩)
   ·gi_wp2
    go_roundw
    case rel=>exact ⟨k+1,by omega,by go_num,by rw[Ro.out];exact hJ3,hnx.trans hk3⟩
    case measure=>simp[intOf];omega
   ·gi_wp2
    rw[Exit.noGoto_normal]
    go_end0
    exact ⟨⟨_,rfl⟩,.inr ⟨_,⟨k+1,by omega,Ro.out.symm⟩,hJx3⟩⟩
  ·have e:k=ps.length:=by omega
   have Gr:J (xG ps hle ps.length) wr:=by rw[e] at hJs;exact hJs
   clear e hJs
   gi_wp2
   rw[Exit.noGoto_normal]
   go_end0
   exact ⟨⟨_,rfl⟩,.inl ⟨_,rfl,Gr⟩⟩
def qB (l:List IL):Nat:=(l.map fun x=>x.1.2).sum
theorem xI (l:List IL) (x:IL):qB (l++ [x])=qB l+x.1.2:=by simp[qB]
theorem LA (l:List IL):qB l≤1099511627776*l.length:=by
 induction l with
 |nil=>simp[qB]
 |cons x l ih=>
  have:=x.2;unfold qB at ih ⊢;rw[List.map_cons,List.sum_cons,List.length_cons];omega
theorem Gs (ps:List (List UInt8)) (h:∀p∈ps,p.length≤1099511627776) (k:Nat) (hk:k≤ps.length):qB (xG ps h k)=ah (ps.take k):=by
 induction k with
 |zero=>rfl
 |succ k ih=>
  have hp:(ps[k]?.getD []).length≤1099511627776:=by
   rw[List.getElem?_eq_getElem (by omega)];exact h _ (List.getElem_mem _)
  rw[AV ps h k ⟨_,hp⟩ rfl,xI,gT ps k (by omega),ih (by omega)]
theorem OY {β:Type} (g:Nat) (t:TypeId) (f:β→Array Value):Own (fun s W=>au W g t (f s)):=fun s X Y row hs hg hrow=>
 hs.grown hg (fun e'=>by obtain ⟨o,ho,hc⟩:=hrow g e'.symm;rw[show X.heap[g]? =_ from hs] at ho;cases ho;cases hc)
set_option maxRecDepth 100000 in
set_option maxHeartbeats 2000000 in
theorem pz (s e:Bool) (A:Option Addr) (n c:Nat) (vs:List Value) (ps:List (List UInt8)) (w:World) (h:jg w w.heap.size A n c vs ps) (hn:n≤1048576) (hle:∀p∈ps,p.length≤1099511627776):
 Calls Tryz.prog 88 #[.agg #[.bool s,.bool e,.slice A n c]] w fun e w'=>e= .returned (.int .i64 (ah ps))∧Below w.heap.size w w':=by
 refine (callsIn_wide (n:=5)).1 ?_;have HL:=Lib.hid h.len;refine callsIn_of_wp_marks Tryz.func88 rfl trivial ?_ rfl;simp only[Tryz.ntmps88,List.size_toArray,List.length_cons,List.length_nil,Nat.reduceAdd,Nat.reduceSub,Array.replicate_succ,Array.replicate_zero,List.push_toArray,List.append_toArray,List.nil_append,List.cons_append];have hA:=(h.alloc (Nat.le_refl _) (.cells #[.bool s,.bool e,.slice A n c] 145)).alloc (by simp) (.cells #[.int .i64 0] 3);have hA:=hA.more (B':=((w.alloc (.cells #[.bool s,.bool e,.slice A n c] 145)).alloc (.cells #[.int .i64 0] 3)).heap.size) (by simp;omega);have HA:=Lib.hid hA;clear hA
 gi_wp2_with (refine ⟨trivial,?_⟩;gi_at_call 130;refine ((callsIn_wide (n:=4)).2 (Eb s e A n c vs ps _ HA.out hn)).mono ?_;rintro e1 w1 ⟨g,v,rfl,hg,hbg,hv,hbw⟩)
 have hr0:au ((w.alloc (.cells #[.bool s,.bool e,.slice A n c] 145)).alloc (.cells #[.int .i64 0] 3)) (w.heap.size+1) 3 #[.int .i64 0]:=by
  simpa using au.new (w.alloc (.cells #[.bool s,.bool e,.slice A n c] 145)) 3 #[.int .i64 0]
 have hr1:=hr0.below hbw hr0.lt;have hgn:g≠w.heap.size+1:=by simp at hg;omega
 have hvn:∀k,v.ownBlock=some k→k≠w.heap.size+1:=fun k hk=>by have:=(hv.lt k hk).1;simp at this;omega
 have hB1:Below w.heap.size w w1:=((Below.refl _ w).alloc (Nat.le_refl _) _).alloc (by simp) _ |>.trans (hbw.mono (by simp;omega));have hsz:w.heap.size+1<w1.heap.size:=hr1.lt;refine wpIn_rangeFunc_ownG rfl (by omega) (gf:=170) (lb:= #[.pointer (some ⟨g,0,none⟩)]) rfl trivial (enters_of Tryz.func170 (by kernel_rfl) rfl)
  (xH _ (by omega) g _ v ps hle (by rw[HL.out];exact hn) (MB (fun k _=>k=w.heap.size+1) w1.heap.size) w1 hbg hv (by rintro (e|⟨_,e⟩);exact hgn e;cases e) (fun k o hk=>by
   rintro (e|⟨e,_⟩)
   ·exact hvn k hk e
   ·have:=(hv.lt k hk).2;omega))
  Kept.trans (MB.b w1) (Below.refl _ _) (fun _=>rfl)
  (fun pre W=>au W (w.heap.size+1) 3 #[.int .i64 (qB pre)]∧Kept (MB (fun k _=>k=w.heap.size+1) w1.heap.size) w1 W) (fun _ _ _=>False)
  (OwnFrom.and (Own.from (OY _ _ _) _) rY) (fun _ _ _ _ _ hs _ _=>hs)
  ⟨by simpa[qB] using hr1,Kept.refl _ _⟩
  (fun x=> {tmps:= #[.agg #[.bool s,.bool e,.slice A n c],.pointer (some ⟨w.heap.size,0,none⟩),.pointer (some ⟨w.heap.size+1,0,none⟩),undef,.int .i64 (x.1.2:Nat),.agg #[.bool s,.bool e,.slice A n c],.func (.func 170) #[] #[.pointer (some ⟨g,0,none⟩)],.int .i64 (x.1.1:Nat),.int .i64 (x.1.2:Nat),undef,undef,undef,undef],defers:= []}) ?assign ?body ?done ?stop
 case assign=>
  intro l x W K hK
  gi_wp2
  exact hK
 case body=>
  rintro lp pre x W ⟨hbx,Gb⟩ hlen;have hc:=hbx.cell 0;have hf:=hbx.frozen 0;simp at hc;have hx:=x.2;have hsl:=LA pre;have hsn:=xI pre x;have Og:=Lib.hid hsn;clear hsn;generalize qB pre=S at*;have hlen':pre.length<1048576:=by have:=HL.out;omega
  obtain ⟨⟨xi,xl⟩,hxl⟩:=x;dsimp only at*
  gi_wp2
  refine ⟨(KeepsOthers.setCell _ _ _).from _,(Kept.refl _ W).setCell (p:=⟨w.heap.size+1,0,none⟩) (fun _ _=> .inl rfl) _,?_,Gb.setCell (p:=⟨w.heap.size+1,0,none⟩) (fun _ _=> .inl rfl) _⟩;rw[Og.out];simpa using hbx.av 0 (.int .i64 ((S:Int)+xl))
 case done=>
  rintro D ys W hD rfl ⟨hbx,Gb⟩ hK;have hc:=hbx.cell 0;have hf:=hbx.frozen 0;simp at hc;have hS:=Gs ps hle ps.length (Nat.le_refl _);rw[List.take_of_length_le (Nat.le_refl _)] at hS;rw[hS] at hc hbx;clear hS;generalize hSS:ah ps=S at*;have Oh:=Lib.hid hSS;clear hSS;have hK2:=(KeepsOthers.setCell W ⟨w.heap.size+1,0,none⟩ (.int .i64 S)).same D _ hK rfl
  gi_wp2
  refine ⟨by simp,.inl ⟨_,_,rfl,run_takeDeferred hK2,?_⟩⟩;have abt:=(Gb.setCell (p:=⟨w.heap.size+1,0,none⟩) (fun _ _=> .inl rfl) (.int .i64 S)).taken (.deferred none) hD hK2 rfl;have abu:=(hbx.av 0 (.int .i64 S)).grown (grownBy_putObj' _ D (.deferred none)) (by simp;omega);have hc2:=abu.cell 0;simp at hc2;refine ⟨.int .i64 S,by simp[results,Tryz.results88,go_sem,hc2],lN (by rw[Oh.out]),hB1.trans (abt.drop.below (fun k o e=>by omega) (by omega))⟩
 case stop=>
  rintro D c pre W _ _ h _;exact h.elim
end Go.Proofs.YtbhiklnljiehiaaGreat
namespace Go.Proofs.YtbhiklnljiehiaaGreat
open Go.RowKit
def iU (n:Nat):Bool:=decide (n=0)
def kU (n:Nat):Bool:=decide (2047<n)
def Rp (q:List UInt8→Bool) (ps:List (List UInt8)) (w:World) (e:Ending) (w':World):Prop:=
 (∃k:Nat,e= .returned (.int .i64 k)∧(∃p∈ps,q p=true)∧w=w')∨(e= .returned (.int .i64 (-1))∧(∀p∈ps,q p=false)∧w=w')
theorem AX (A:Option Addr) (n c:Nat) (w:World):Calls Tryz.prog 211 #[.slice A n c] w fun e w'=>e= .returned (.bool (iU n))∧w=w':=by
 have hd:((n:Int)==0)=iU n:=by unfold iU;rw[Bool.eq_iff_iff];simp;try omega
 generalize iU n=r at*;go_enter Tryz.func211,Tryz.ntmps211;go_wp2;go_ret
 first|exact ⟨rfl,rfl⟩|exact ⟨bu hd,rfl⟩
set_option maxHeartbeats 400000 in
theorem xJ (A:Option Addr) (n c:Nat) (vs:List Value) (ps:List (List UInt8)) (w:World) (h:jg w w.heap.size A n c vs ps):
 Calls Tryz.prog 224 #[.slice A n c,.func (.func 211) #[] #[]] w (Rp (fun p=>iU p.length) ps w):=by
 have HL:=Lib.hid h.len;have hn63:n≤9223372036854775807:=by have:=h.sl.cap;have:=h.sl.mx;omega
 go_enter Tryz.func224,Tryz.ntmps224;go_wp2
 go_loop [8] (fun i=>∃k:Nat,k≤n∧i= .int .i64 k∧∀p∈ps.take k,iU p.length=false) (fun i=>n-(intOf i).toNat)
 case atStart=>exact ⟨0,Nat.zero_le _,rfl,by simp⟩
 case round=>
  obtain ⟨k,hk,rfl,hall⟩:=hrel;have HA:=Lib.hid hall;clear hall;by_cases hlt:k<n
  ·obtain ⟨ad,Ai,ci,rfl,hb,hc,hsl⟩:=h.get hlt;have hkl:k<ps.length:=by rw[HL.out];exact hlt
   have hin:ps[k]?.getD []∈ps:=by rw[List.getElem?_eq_getElem hkl];exact List.getElem_mem _
   have htk:ps.take (k+1)=ps.take k++ [ps[k]?.getD []]:=by rw[List.take_add_one,List.getElem?_eq_getElem hkl];rfl
   generalize ps[k]?.getD []=p at*;have HT:=Lib.hid htk;have HI:=Lib.hid hin;clear htk hin hkl;cases hq:iU p.length with
   |false=>
    have HQ:=Lib.hid hq;have gP:=AX Ai p.length ci w;rw[hq] at gP;have HF:=Lib.hid gP;clear gP hq;go_wp2_with (go_at_call 211;refine HF.out.mono ?_;rintro e w' ⟨rfl,rfl⟩)
    go_round
    case rel=>exact ⟨k+1,by omega,by go_num,by
     intro q hq;rw[HT.out,List.mem_append] at hq;rcases hq with hq|hq
     ·exact HA.out q hq
     ·rw[List.mem_singleton] at hq;rw[hq];exact HQ.out⟩
    case measure=>simp[intOf];omega
   |true=>
    have HQ:=Lib.hid hq;have gP:=AX Ai p.length ci w;rw[hq] at gP;have HF:=Lib.hid gP;clear gP hq;go_wp2_with (go_at_call 211;refine HF.out.mono ?_;rintro e w' ⟨rfl,rfl⟩);go_ret;exact .inl ⟨k,rfl,⟨p,HI.out,HQ.out⟩,rfl⟩
  ·have e:ps.take k=ps:=List.take_of_length_le (by rw[HL.out];omega);have hA:=HA.out;rw[e] at hA;have wK:=Lib.hid hA;clear hA e;go_wp2;go_ret;exact .inr ⟨rfl,wK.out,rfl⟩
theorem si (A:Option Addr) (n c:Nat) (vs:List Value) (ps:List (List UInt8)) (w:World) (h:jg w w.heap.size A n c vs ps):
 Calls Tryz.prog 216 #[.slice A n c,.func (.func 211) #[] #[]] w fun e w'=>e= .returned (.bool (ps.any fun p=>iU p.length))∧w=w':=by
 go_enter Tryz.func216,Tryz.ntmps216;go_wp2_with fail;refine (xJ A n c vs ps w h).mono ?_;rintro e w' (⟨k,rfl,⟨p,hp,hq⟩,rfl⟩|⟨rfl,hall,rfl⟩)
 ·have hany:(ps.any fun p=>iU p.length)=true:=by rw[List.any_eq_true];exact ⟨p,hp,hq⟩
  have HA:=Lib.hid hany;clear hany;go_wp2;go_ret;exact ⟨bu (by rw[HA.out]),rfl⟩
 ·have hany:(ps.any fun p=>iU p.length)=false:=by rw[List.any_eq_false];intro p hp;have:=hall p hp;dsimp only at this;rw[this];simp
  have HA:=Lib.hid hany;clear hany hall;go_wp2;go_ret;exact ⟨bu (by rw[HA.out]),rfl⟩
theorem Ed (A:Option Addr) (n c:Nat) (w:World):Calls Tryz.prog 212 #[.slice A n c] w fun e w'=>e= .returned (.bool (kU n))∧w=w':=by
 have hd:(decide (2047<(n:Int)))=kU n:=by unfold kU;rw[Bool.eq_iff_iff];simp;try omega
 generalize kU n=r at*;go_enter Tryz.func212,Tryz.ntmps212;go_wp2;go_ret
 first|exact ⟨rfl,rfl⟩|exact ⟨bu hd,rfl⟩
set_option maxHeartbeats 400000 in
theorem zO (A:Option Addr) (n c:Nat) (vs:List Value) (ps:List (List UInt8)) (w:World) (h:jg w w.heap.size A n c vs ps):
 Calls Tryz.prog 224 #[.slice A n c,.func (.func 212) #[] #[]] w (Rp (fun p=>kU p.length) ps w):=by
 have HL:=Lib.hid h.len;have hn63:n≤9223372036854775807:=by have:=h.sl.cap;have:=h.sl.mx;omega
 go_enter Tryz.func224,Tryz.ntmps224;go_wp2
 go_loop [8] (fun i=>∃k:Nat,k≤n∧i= .int .i64 k∧∀p∈ps.take k,kU p.length=false) (fun i=>n-(intOf i).toNat)
 case atStart=>exact ⟨0,Nat.zero_le _,rfl,by simp⟩
 case round=>
  obtain ⟨k,hk,rfl,hall⟩:=hrel;have HA:=Lib.hid hall;clear hall;by_cases hlt:k<n
  ·obtain ⟨ad,Ai,ci,rfl,hb,hc,hsl⟩:=h.get hlt;have hkl:k<ps.length:=by rw[HL.out];exact hlt
   have hin:ps[k]?.getD []∈ps:=by rw[List.getElem?_eq_getElem hkl];exact List.getElem_mem _
   have htk:ps.take (k+1)=ps.take k++ [ps[k]?.getD []]:=by rw[List.take_add_one,List.getElem?_eq_getElem hkl];rfl
   generalize ps[k]?.getD []=p at*;have HT:=Lib.hid htk;have HI:=Lib.hid hin;clear htk hin hkl;cases hq:kU p.length with
   |false=>
    have HQ:=Lib.hid hq;have gP:=Ed Ai p.length ci w;rw[hq] at gP;have HF:=Lib.hid gP;clear gP hq;go_wp2_with (go_at_call 212;refine HF.out.mono ?_;rintro e w' ⟨rfl,rfl⟩)
    go_round
    case rel=>exact ⟨k+1,by omega,by go_num,by
     intro q hq;rw[HT.out,List.mem_append] at hq;rcases hq with hq|hq
     ·exact HA.out q hq
     ·rw[List.mem_singleton] at hq;rw[hq];exact HQ.out⟩
    case measure=>simp[intOf];omega
   |true=>
    have HQ:=Lib.hid hq;have gP:=Ed Ai p.length ci w;rw[hq] at gP;have HF:=Lib.hid gP;clear gP hq;go_wp2_with (go_at_call 212;refine HF.out.mono ?_;rintro e w' ⟨rfl,rfl⟩);go_ret;exact .inl ⟨k,rfl,⟨p,HI.out,HQ.out⟩,rfl⟩
  ·have e:ps.take k=ps:=List.take_of_length_le (by rw[HL.out];omega);have hA:=HA.out;rw[e] at hA;have wK:=Lib.hid hA;clear hA e;go_wp2;go_ret;exact .inr ⟨rfl,wK.out,rfl⟩
theorem uo (A:Option Addr) (n c:Nat) (vs:List Value) (ps:List (List UInt8)) (w:World) (h:jg w w.heap.size A n c vs ps):
 Calls Tryz.prog 216 #[.slice A n c,.func (.func 212) #[] #[]] w fun e w'=>e= .returned (.bool (ps.any fun p=>kU p.length))∧w=w':=by
 go_enter Tryz.func216,Tryz.ntmps216;go_wp2_with fail;refine (zO A n c vs ps w h).mono ?_;rintro e w' (⟨k,rfl,⟨p,hp,hq⟩,rfl⟩|⟨rfl,hall,rfl⟩)
 ·have hany:(ps.any fun p=>kU p.length)=true:=by rw[List.any_eq_true];exact ⟨p,hp,hq⟩
  have HA:=Lib.hid hany;clear hany;go_wp2;go_ret;exact ⟨bu (by rw[HA.out]),rfl⟩
 ·have hany:(ps.any fun p=>kU p.length)=false:=by rw[List.any_eq_false];intro p hp;have:=hall p hp;dsimp only at this;rw[this];simp
  have HA:=Lib.hid hany;clear hany hall;go_wp2;go_ret;exact ⟨bu (by rw[HA.out]),rfl⟩
end Go.Proofs.YtbhiklnljiehiaaGreat
namespace Go.Proofs.YtbhiklnljiehiaaGreat
open Go.RowKit
theorem jg.drew' {w:World} {B n c:Nat} {A:Option Addr} {vs:List Value} {ps:List (List UInt8)} (h:jg w B A n c vs ps):jg w.drew B A n c vs ps:=⟨h.sl.drew,h.len,fun i p hi=>let ⟨Ai,ci,e,hs⟩:=h.each i p hi;⟨Ai,ci,e,hs.drew⟩⟩
theorem jg.gU {w:World} {n c:Nat} {A:Option Addr} {vs:List Value} {ps:List (List UInt8)} (h:jg w w.heap.size A n c vs ps) (k:Nat):jg (w.drewN k) (w.drewN k).heap.size A n c vs ps:=⟨h.sl.drewN k,h.len,fun i p hi=>let ⟨Ai,ci,e,hs⟩:=h.each i p hi;⟨Ai,ci,e,hs.drewN k⟩⟩
theorem jg.pre {w:World} {B n c k:Nat} {A:Option Addr} {vs:List Value} {ps:List (List UInt8)} (h:jg w B A n c vs ps) (hk:k≤n):jg w B A k k (vs.take k) (ps.take k):=by
 refine ⟨⟨by rw[List.length_take,h.sl.len];omega,Nat.le_refl _,by have:=h.sl.cap;have:=h.sl.mx;omega,fun hp=> ?_⟩,by rw[List.length_take,h.len];omega,fun i p hi=> ?_⟩
 ·obtain ⟨ad,e,hb,hc⟩:=h.sl.at_ (by omega);refine ⟨ad,e,hb,fun j u hu=>hc j u ?_⟩;rw[List.getElem?_take] at hu;split at hu
  ·exact hu
  ·cases hu
 ·rw[List.getElem?_take] at hi;split at hi
  ·obtain ⟨Ai,ci,e,hs⟩:=h.each i p hi;exact ⟨Ai,ci,by rw[List.getElem?_take,if_pos (by assumption)];exact e,hs⟩
  ·cases hi
def AY (bs:List Bool) (Inv:World→Prop) (e:Ending) (w':World):Prop:=
 ((∃k:Nat,e= .returned (.int .i64 k)∧bs.all id=false)∨(e= .returned (.int .i64 (-1))∧bs.all id=true))∧Inv w'
set_option maxHeartbeats 400000 in
theorem Cn (b:Nat) (jC:List Value) (bs:List Bool) (Inv:World→Prop) (w:World) (hlen:bs.length=jC.length) (hsm:jC.length≤1000) (hI:∀W,Inv W→au W b 26 jC.toArray)
 (hcall:∀(i:Nat) (fv:Value) (x:Bool) (W:World),jC[i]? =some fv→bs[i]? =some x→(∀y∈bs.take i,y=true)→Inv W→Calls Tryz.prog 223 #[fv] W fun e W'=>e= .returned (.bool (!x))∧Inv W')
 (h0:Inv w):Calls Tryz.prog 221 #[.slice (some ⟨b,0,none⟩) jC.length jC.length,.func (.func 223) #[] #[]] w (AY bs Inv):=by
 have HC:=Lib.hid hcall;have HI:=Lib.hid hI;have HL:=Lib.hid hlen;clear hcall hI hlen;obtain ⟨N,hN⟩:∃N,N=jC.length:=⟨_,rfl⟩
 rw[←hN] at hsm ⊢;have HN:=Lib.hid hN;clear hN;go_enter Tryz.func221,Tryz.ntmps221;go_wp2
 go_loopw [8] (fun i wr=>∃k:Nat,k≤N∧i= .int .i64 k∧(∀y∈bs.take k,y=true)∧Inv wr) (fun i _=>N-(intOf i).toNat)
 case atStart=>exact ⟨0,Nat.zero_le _,rfl,by simp,h0⟩
 case round=>
  clear h0;obtain ⟨k,hk,rfl,hall,hinv⟩:=hrel;have HA:=Lib.hid hall;clear hall;by_cases hlt:k<N
  ·obtain ⟨fv,gP⟩:∃fv,jC[k]? =some fv:=⟨_,List.getElem?_eq_getElem (by rw[←HN.out];exact hlt)⟩
   obtain ⟨x,hx⟩:∃x,bs[k]? =some x:=⟨_,List.getElem?_eq_getElem (by rw[HL.out,←HN.out];exact hlt)⟩
   have hcl:=HC.out k fv x wr gP hx HA.out hinv;have hcell:=(HI.out wr hinv).cell k;rw[List.getElem?_toArray,gP] at hcell;have qP:=Lib.hid hcl;have HX:=Lib.hid hx;clear hcl gP hx;cases x with
   |true=>
    go_wp2_with (go_at_call 223;refine qP.out.mono ?_;rintro e w' ⟨rfl,hi'⟩)
    go_roundw
    case rel=>exact ⟨k+1,by omega,by go_num,by
     intro y hy;rw[List.take_add_one,HX.out,List.mem_append] at hy;rcases hy with hy|hy
     ·exact HA.out y hy
     ·simpa using hy,hi'⟩
    case measure=>simp[intOf];omega
   |false=>
    go_wp2_with (go_at_call 223;refine qP.out.mono ?_;rintro e w' ⟨rfl,hi'⟩);go_ret;refine ⟨.inl ⟨k,rfl,?_⟩,hi'⟩;rw[List.all_eq_false];exact ⟨false,List.mem_of_getElem? HX.out,by simp⟩
  ·have e:bs.take k=bs:=List.take_of_length_le (by rw[HL.out,←HN.out];omega);have hA:=HA.out;rw[e] at hA;have wK:=Lib.hid hA;clear hA e;go_wp2;go_ret;exact ⟨.inr ⟨rfl,by rw[List.all_eq_true];exact wK.out⟩,hinv⟩
theorem vZ (b:Nat) (jC:List Value) (bs:List Bool) (Inv:World→Prop) (w:World)
 (h:Calls Tryz.prog 221 #[.slice (some ⟨b,0,none⟩) jC.length jC.length,.func (.func 223) #[] #[]] w (AY bs Inv)):
 Calls Tryz.prog 206 #[.slice (some ⟨b,0,none⟩) jC.length jC.length,.func (.func 223) #[] #[]] w fun e w'=>e= .returned (.bool (!bs.all id))∧Inv w':=by
 have H:=Lib.hid h;clear h;go_enter Tryz.func206,Tryz.ntmps206;go_wp2_with fail;refine H.out.mono ?_;rintro e w' ⟨⟨k,rfl,ha⟩|⟨rfl,ha⟩,hi⟩
 ·have HA:=Lib.hid ha;clear ha;go_wp2;go_ret;exact ⟨bu (by rw[HA.out];rfl),hi⟩
 ·have HA:=Lib.hid ha;clear ha;go_wp2;go_ret;exact ⟨bu (by rw[HA.out];rfl),hi⟩
theorem OZ (b:Nat) (jC:List Value) (bs:List Bool) (Inv:World→Prop) (w:World)
 (h:Calls Tryz.prog 206 #[.slice (some ⟨b,0,none⟩) jC.length jC.length,.func (.func 223) #[] #[]] w fun e w'=>e= .returned (.bool (!bs.all id))∧Inv w'):
 Calls Tryz.prog 213 #[.slice (some ⟨b,0,none⟩) jC.length jC.length] w fun e w'=>e= .returned (.bool (bs.all id))∧Inv w':=by
 have H:=Lib.hid h;clear h;go_enter Tryz.func213,Tryz.ntmps213;go_wp2_with fail;refine H.out.mono ?_;rintro e w' ⟨rfl,hi⟩;go_wp2;go_ret;exact ⟨bu (by simp),hi⟩
end Go.Proofs.YtbhiklnljiehiaaGreat
namespace Go.Proofs.YtbhiklnljiehiaaGreat
open Go.RowKit
def kV (ps:List (List UInt8)):List Bool:=
 [decide (1≤ps.length∧ps.length≤64),!(ps.any fun p=>iU p.length),!((ps.take (ps.length-1)).any fun p=>kU p.length),decide (ah ps≤32767)]
def l7 (ps:List (List UInt8)):Bool:=(kV ps).all id
theorem SK (bn n:Nat) (w:World) (h:au w bn 3 #[.int .i64 n]):
 Calls Tryz.prog 214 #[.pointer (some ⟨bn,0,none⟩)] w fun e w'=>e= .returned (.bool (decide (1≤n∧n≤64)))∧w=w':=by
 have hc:=h.cell 0;simp at hc;by_cases h1:1≤n
 ·by_cases h2:n≤64
  ·have hd:decide (1≤n∧n≤64)=true:=by simp;omega
   rw[hd];clear hd;go_enter Tryz.func214,Tryz.ntmps214;go_wp2;go_ret;exact ⟨bu (by simp;omega),rfl⟩
  ·have hd:decide (1≤n∧n≤64)=false:=by simp;omega
   rw[hd];clear hd;go_enter Tryz.func214,Tryz.ntmps214;go_wp2;go_ret;exact ⟨bu (by simp;omega),rfl⟩
 ·have hd:decide (1≤n∧n≤64)=false:=by simp;omega
  rw[hd];clear hd;go_enter Tryz.func214,Tryz.ntmps214;go_wp2;go_ret;exact ⟨rfl,rfl⟩
theorem SL (bc be:Nat) (s e:Bool) (A:Option Addr) (n c:Nat) (vs:List Value) (ps:List (List UInt8)) (w:World) (h:jg w w.heap.size A n c vs ps)
 (hc:au w bc 145 #[.bool s,.bool e,.slice A n c]) (he:au w be 288 #[.func (.func 211) #[] #[]]):
 Calls Tryz.prog 215 #[.pointer (some ⟨bc,0,none⟩),.pointer (some ⟨be,0,none⟩)] w fun e w'=>e= .returned (.bool (!(ps.any fun p=>iU p.length)))∧w=w':=by
 have hc2:=hc.cell 2;have he0:=he.cell 0;simp at hc2 he0;have hct:=si A n c vs ps w h;have HC:=Lib.hid hct;clear hct;generalize (ps.any fun p=>iU p.length)=r at*;go_enter Tryz.func215,Tryz.ntmps215;go_wp2_with (go_at_call 216;refine HC.out.mono ?_;rintro e w' ⟨rfl,rfl⟩);go_ret;exact ⟨rfl,rfl⟩
set_option maxHeartbeats 400000 in
theorem SN (bc bn bl:Nat) (s e:Bool) (A:Option Addr) (n c:Nat) (vs:List Value) (ps:List (List UInt8)) (w:World) (h:jg w w.heap.size A n c vs ps)
 (hc:au w bc 145 #[.bool s,.bool e,.slice A n c]) (hn:au w bn 3 #[.int .i64 n]) (hl:au w bl 288 #[.func (.func 212) #[] #[]]) (h1:1≤n):
 Calls Tryz.prog 217 #[.pointer (some ⟨bc,0,none⟩),.pointer (some ⟨bn,0,none⟩),.pointer (some ⟨bl,0,none⟩)] w fun e w'=>e= .returned (.bool (!((ps.take (n-1)).any fun p=>kU p.length)))∧Below w.heap.size w w':=by
 have hc2:=hc.cell 2;have hn0:=hn.cell 0;have hl0:=hl.cell 0;simp at hc2 hn0 hl0;have hcap:=h.sl.cap;have hmx:=h.sl.mx;obtain ⟨m,rfl⟩:∃m,n=m+1:=⟨n-1,by omega⟩
 have hct:=fun W (hW:jg W W.heap.size A (m+1) c vs ps)=>uo A m m _ _ W (hW.pre (k:=m) (by omega))
 have e1:m+1-1=m:=by omega
 rw[e1];generalize ((ps.take m).any fun p=>kU p.length)=r at*;have HC:=Lib.hid hct;clear hct e1;have e2:((m:Int)+1-1)=m:=by omega
 have e3:IntKind.i64.wrap ((m:Int)+1-1)=m:=by rw[e2];exact IntWalk.i64_in _ (by omega)
 go_enter Tryz.func217,Tryz.ntmps217;go_wp2
 go_quiet ((go_at_call 216;exact Calls.quiet_of_same ((HC.out _ (h.gU _)).mono fun _ _ hh=>⟨hh.1,hh.2.symm⟩)))
 go_wp2;go_ret;exact ⟨rfl,(Below.refl _ w).drewN _⟩
theorem SQ (bc:Nat) (s e:Bool) (A:Option Addr) (n c:Nat) (vs:List Value) (ps:List (List UInt8)) (w:World) (h:jg w w.heap.size A n c vs ps) (hn:n≤1048576) (hle:∀p∈ps,p.length≤1099511627776)
 (hc:au w bc 145 #[.bool s,.bool e,.slice A n c]):
 Calls Tryz.prog 218 #[.pointer (some ⟨bc,0,none⟩)] w fun e w'=>e= .returned (.bool (decide (ah ps≤32767)))∧Below w.heap.size w w':=by
 have hc0:=hc.cell 0;have hc1:=hc.cell 1;have hc2:=hc.cell 2;simp at hc0 hc1 hc2;have hsz:=pz s e A n c vs ps w h hn hle;have HZ:=Lib.hid hsz;clear hsz hle;generalize ah ps=S at*;have hd:decide ((S:Int)≤32767)=decide (S≤32767):=by simp;omega
 generalize hr:decide (S≤32767)=r at*;clear hr;go_enter Tryz.func218,Tryz.ntmps218;go_wp2_with (go_at_call 88;refine HZ.out.mono ?_;rintro e w' ⟨rfl,hb⟩);go_ret
 first|exact ⟨rfl,hb⟩|exact ⟨bu hd,hb⟩
theorem SS (bn:Nat) (x:Bool) (w:World) (h:Calls Tryz.prog 214 #[.pointer (some ⟨bn,0,none⟩)] w fun e w'=>e= .returned (.bool x)∧Below w.heap.size w w'):
 Calls Tryz.prog 223 #[.func (.func 214) #[] #[.pointer (some ⟨bn,0,none⟩)]] w fun e w'=>e= .returned (.bool (!x))∧Below w.heap.size w w':=by
 have H:=Lib.hid h;clear h;go_enter Tryz.func223,Tryz.ntmps223;go_wp2_with (go_at_call 214;refine H.out.mono ?_;rintro e w' ⟨rfl,hb⟩);go_ret;exact ⟨rfl,hb⟩
theorem SV (bc be:Nat) (x:Bool) (w:World) (h:Calls Tryz.prog 215 #[.pointer (some ⟨bc,0,none⟩),.pointer (some ⟨be,0,none⟩)] w fun e w'=>e= .returned (.bool x)∧Below w.heap.size w w'):
 Calls Tryz.prog 223 #[.func (.func 215) #[] #[.pointer (some ⟨bc,0,none⟩),.pointer (some ⟨be,0,none⟩)]] w fun e w'=>e= .returned (.bool (!x))∧Below w.heap.size w w':=by
 have H:=Lib.hid h;clear h;go_enter Tryz.func223,Tryz.ntmps223;go_wp2_with (go_at_call 215;refine H.out.mono ?_;rintro e w' ⟨rfl,hb⟩);go_ret;exact ⟨rfl,hb⟩
theorem SX (bc bn bl:Nat) (x:Bool) (w:World) (h:Calls Tryz.prog 217 #[.pointer (some ⟨bc,0,none⟩),.pointer (some ⟨bn,0,none⟩),.pointer (some ⟨bl,0,none⟩)] w fun e w'=>e= .returned (.bool x)∧Below w.heap.size w w'):
 Calls Tryz.prog 223 #[.func (.func 217) #[] #[.pointer (some ⟨bc,0,none⟩),.pointer (some ⟨bn,0,none⟩),.pointer (some ⟨bl,0,none⟩)]] w fun e w'=>e= .returned (.bool (!x))∧Below w.heap.size w w':=by
 have H:=Lib.hid h;clear h;go_enter Tryz.func223,Tryz.ntmps223;go_wp2_with (go_at_call 217;refine H.out.mono ?_;rintro e w' ⟨rfl,hb⟩);go_ret;exact ⟨rfl,hb⟩
theorem SY (bc:Nat) (x:Bool) (w:World) (h:Calls Tryz.prog 218 #[.pointer (some ⟨bc,0,none⟩)] w fun e w'=>e= .returned (.bool x)∧Below w.heap.size w w'):
 Calls Tryz.prog 223 #[.func (.func 218) #[] #[.pointer (some ⟨bc,0,none⟩)]] w fun e w'=>e= .returned (.bool (!x))∧Below w.heap.size w w':=by
 have H:=Lib.hid h;clear h;go_enter Tryz.func223,Tryz.ntmps223;go_wp2_with (go_at_call 218;refine H.out.mono ?_;rintro e w' ⟨rfl,hb⟩);go_ret;exact ⟨rfl,hb⟩
theorem JE (bc bn be bl b:Nat) (s e:Bool) (A:Option Addr) (n c:Nat) (vs:List Value) (ps:List (List UInt8)) (w:World) (h:jg w w.heap.size A n c vs ps) (hn:n≤1048576) (hle:∀p∈ps,p.length≤1099511627776)
 (hbc:au w bc 145 #[.bool s,.bool e,.slice A n c]) (hbn:au w bn 3 #[.int .i64 n]) (hbe:au w be 288 #[.func (.func 211) #[] #[]]) (hbl:au w bl 288 #[.func (.func 212) #[] #[]])
 (hb:au w b 26 #[.func (.func 214) #[] #[.pointer (some ⟨bn,0,none⟩)],.func (.func 215) #[] #[.pointer (some ⟨bc,0,none⟩),.pointer (some ⟨be,0,none⟩)],
  .func (.func 217) #[] #[.pointer (some ⟨bc,0,none⟩),.pointer (some ⟨bn,0,none⟩),.pointer (some ⟨bl,0,none⟩)],.func (.func 218) #[] #[.pointer (some ⟨bc,0,none⟩)]]):
 Calls Tryz.prog 213 #[.slice (some ⟨b,0,none⟩) 4 4] w fun e w'=>e= .returned (.bool (l7 ps))∧Below w.heap.size w w':=by
 refine OZ b [.func (.func 214) #[] #[.pointer (some ⟨bn,0,none⟩)],.func (.func 215) #[] #[.pointer (some ⟨bc,0,none⟩),.pointer (some ⟨be,0,none⟩)],
  .func (.func 217) #[] #[.pointer (some ⟨bc,0,none⟩),.pointer (some ⟨bn,0,none⟩),.pointer (some ⟨bl,0,none⟩)],.func (.func 218) #[] #[.pointer (some ⟨bc,0,none⟩)]] (kV ps) (fun W=>Below w.heap.size w W) w ?_
 refine vZ b _ (kV ps) (fun W=>Below w.heap.size w W) w ?_;refine Cn b _ (kV ps) (fun W=>Below w.heap.size w W) w rfl (by simp) (fun W hW=>hb.below hW hb.lt) ?_ (Below.refl _ _);have hl:=h.len;intro i fv x W gP hx hpre hW;have hS:=(h.below hW).more hW.size;have key:Calls Tryz.prog 223 #[fv] W fun e W'=>e= .returned (.bool (!x))∧Below W.heap.size W W':=by
  match i,gP,hx,hpre with
  |0,gP,hx,_=>
   simp only[kV,List.getElem?_cons_zero,Option.some.injEq] at gP hx;subst gP hx;refine SS bn _ W ((SK bn n W (hbn.below hW hbn.lt)).mono fun e W' hh=>⟨?_,by rw[←hh.2];exact Below.refl _ _⟩);rw[hh.1,hl]
  |1,gP,hx,_=>
   simp only[kV,List.getElem?_cons_zero,List.getElem?_cons_succ,Option.some.injEq] at gP hx;subst gP hx;exact SV bc be _ W ((SL bc be s e A n c vs ps W hS (hbc.below hW hbc.lt) (hbe.below hW hbe.lt)).mono fun e W' hh=>⟨hh.1,by rw[←hh.2];exact Below.refl _ _⟩)
  |2,gP,hx,hpre=>
   have h1:1≤n:=by
    have:=hpre (decide (1≤ps.length∧ps.length≤64)) (by simp[kV]);simp at this;omega
   simp only[kV,List.getElem?_cons_zero,List.getElem?_cons_succ,Option.some.injEq] at gP hx;subst gP hx;rw[hl];exact SX bc bn bl _ W (SN bc bn bl s e A n c vs ps W hS (hbc.below hW hbc.lt) (hbn.below hW hbn.lt) (hbl.below hW hbl.lt) h1)
  |3,gP,hx,_=>
   simp only[kV,List.getElem?_cons_zero,List.getElem?_cons_succ,Option.some.injEq] at gP hx;subst gP hx;exact SY bc _ W (SQ bc s e A n c vs ps W hS hn hle (hbc.below hW hbc.lt))
  |i+4,gP,_,_=>simp at gP
 exact key.mono fun e W' hh=>⟨hh.1,hW.trans (hh.2.mono hW.size)⟩
set_option maxHeartbeats 800000 in
theorem JF (s e:Bool) (A:Option Addr) (n c:Nat) (vs:List Value) (ps:List (List UInt8)) (w:World) (h:jg w w.heap.size A n c vs ps) (hn:n≤1048576) (hle:∀p∈ps,p.length≤1099511627776):
 Calls Tryz.prog 195 #[.agg #[.bool s,.bool e,.slice A n c]] w fun e w'=>e= .returned (.bool (l7 ps))∧Below w.heap.size w w':=by
 have S7:=Lib.hid hle;clear hle;have hK:=((((Kept.refl (fun k _=>w.heap.size≤k) w).alloc (.cells #[.bool s,.bool e,.slice A n c] 145)).alloc (.cells #[.int .i64 n] 3)).alloc (.cells #[.func (.func 211) #[] #[]] 288)).alloc (.cells #[.func (.func 212) #[] #[]] 288);have hB:=(hK.alloc (.cells #[.func (.func 214) #[] #[.pointer (some ⟨w.heap.size+1,0,none⟩)],.func (.func 215) #[] #[.pointer (some ⟨w.heap.size,0,none⟩),.pointer (some ⟨w.heap.size+1+1,0,none⟩)],
  .func (.func 217) #[] #[.pointer (some ⟨w.heap.size,0,none⟩),.pointer (some ⟨w.heap.size+1,0,none⟩),.pointer (some ⟨w.heap.size+1+1+1,0,none⟩)],.func (.func 218) #[] #[.pointer (some ⟨w.heap.size,0,none⟩)]] 26)).below (B:=w.heap.size) (fun _ _ h=>h) (Nat.le_refl _)
 clear hK;have b0:=au.new w 145 #[.bool s,.bool e,.slice A n c];have b1:=au.new (w.alloc (.cells #[.bool s,.bool e,.slice A n c] 145)) 3 #[.int .i64 n];have b2:=au.new ((w.alloc (.cells #[.bool s,.bool e,.slice A n c] 145)).alloc (.cells #[.int .i64 n] 3)) 288 #[.func (.func 211) #[] #[]];have b3:=au.new (((w.alloc (.cells #[.bool s,.bool e,.slice A n c] 145)).alloc (.cells #[.int .i64 n] 3)).alloc (.cells #[.func (.func 211) #[] #[]] 288)) 288 #[.func (.func 212) #[] #[]];have b4:=au.new ((((w.alloc (.cells #[.bool s,.bool e,.slice A n c] 145)).alloc (.cells #[.int .i64 n] 3)).alloc (.cells #[.func (.func 211) #[] #[]] 288)).alloc (.cells #[.func (.func 212) #[] #[]] 288)) 26 #[.func (.func 214) #[] #[.pointer (some ⟨w.heap.size+1,0,none⟩)],.func (.func 215) #[] #[.pointer (some ⟨w.heap.size,0,none⟩),.pointer (some ⟨w.heap.size+1+1,0,none⟩)],
  .func (.func 217) #[] #[.pointer (some ⟨w.heap.size,0,none⟩),.pointer (some ⟨w.heap.size+1,0,none⟩),.pointer (some ⟨w.heap.size+1+1+1,0,none⟩)],.func (.func 218) #[] #[.pointer (some ⟨w.heap.size,0,none⟩)]]
 simp only[World.size_alloc] at b1 b2 b3 b4;have hall:=JE w.heap.size (w.heap.size+1) (w.heap.size+1+1) (w.heap.size+1+1+1) (w.heap.size+1+1+1+1) s e A n c vs ps _ ((h.below hB).more hB.size) hn S7.out ((((b0.alloc _).alloc _).alloc _).alloc _) (((b1.alloc _).alloc _).alloc _) ((b2.alloc _).alloc _) (b3.alloc _) b4;have oK:=Lib.hid hall;have HB:=Lib.hid hB;clear hall b0 b1 b2 b3 b4 hB;generalize l7 ps=r at*;go_enter Tryz.func195,Tryz.ntmps195;go_wp2_with (go_at_call 213;refine oK.out.mono ?_;rintro e w' ⟨rfl,hb⟩);go_ret;exact ⟨rfl,HB.out.trans (hb.mono HB.out.size)⟩
end Go.Proofs.YtbhiklnljiehiaaGreat
namespace Go.Proofs.YtbhiklnljiehiaaGreat
open Go.RowKit
def mM (ps:List (List UInt8)) (i:Nat):List (Nat × Nat):= [((decide (i+2<ps.length)).toNat,1),((ps[i]?.getD []).length,11)]
def dI (ps:List (List UInt8)) (k:Nat):List Bool:=(List.range k).flatMap fun i=>aG (mM ps i)
theorem Co (ps:List (List UInt8)) (k:Nat):dI ps (k+1)=dI ps k++aG (mM ps k):=by simp[dI,List.range_succ]
theorem pE (ps:List (List UInt8)) (k:Nat):(dI ps k).length=12*k:=by
 unfold dI;rw[List.length_flatMap];have:∀i,(aG (mM ps i)).length=12:=fun i=>by simp[aG,mM]
 simp only[this,List.map_const',List.length_range,List.sum_replicate_nat];omega
theorem gJ {ps:List (List UInt8)} {p:List UInt8} (h:p∈ps):p.length≤ah ps:=by
 induction ps with
 |nil=>cases h
 |cons q ps ih=>
  unfold ah at ih ⊢;rw[List.map_cons,List.sum_cons];rcases List.mem_cons.1 h with rfl|h
  ·omega
  ·have:=ih h;omega
structure qQ (ps:List (List UInt8)):Prop where
 lo:1≤ps.length
 hi:ps.length≤64
 pos:∀p∈ps,1≤p.length
 short:∀i,i+1<ps.length→(ps[i]?.getD []).length≤2047
 sum:ah ps≤32767
theorem nN (ps:List (List UInt8)):l7 ps=true↔qQ ps:=by
 unfold l7 kV;simp only[List.all_cons,List.all_nil,Bool.and_true,id,Bool.and_eq_true,Bool.not_eq_true',decide_eq_true_eq,List.any_eq_false,Bool.not_eq_true];constructor
 ·rintro ⟨⟨h1,h2⟩,h3,h4,h5⟩;refine ⟨h1,h2,fun p hp=> ?_,fun i hi=> ?_,h5⟩
  ·have:=h3 p hp;simp[iU] at this;cases p with
   |nil=>exact absurd rfl this
   |cons=>simp
  ·have:=h4 (ps[i]?.getD []) (by
    rw[List.getElem?_eq_getElem (by omega)];show ps[i]∈_
    rw[List.mem_take_iff_getElem];exact ⟨i,by omega,rfl⟩)
   simp[kU] at this;omega
 ·rintro ⟨h1,h2,h3,h4,h5⟩;refine ⟨⟨h1,h2⟩,fun p hp=> ?_,fun p hp=> ?_,h5⟩
  ·have:=h3 p hp;simp[iU];rintro rfl;simp at this
  ·rw[List.mem_take_iff_getElem] at hp;obtain ⟨i,hi,rfl⟩:=hp;have:=h4 i (by omega);rw[List.getElem?_eq_getElem (by omega)] at this;simp[kU];simpa using this
def pF (B:Nat) (t:TypeId) (w:World) (n:Nat) (xs:List Value) (er:Int) (e:Ending) (w':World):Prop:=
 ∃v,e= .returned (.tuple #[v,.int .i64 er])∧w'.ownsRow B t 1 v n xs∧Below B w w'
end Go.Proofs.YtbhiklnljiehiaaGreat
namespace Go.Proofs.YtbhiklnljiehiaaGreat
section
def oQ (n:Int):Nat→List (List UInt8)→Nat→Nat→Nat→Nat→Bool→List (List UInt8) × Bool × List (List UInt8) × Nat
 |0,bD,sent,_,_,_,e=>([],e,bD,sent)
 |_+1,[],sent,_,_,_,e=>([],e,[],sent)
 |f+1,x::rest,sent,cnt,kr,size,e=>
  if cnt=64∨(0<cnt∧2047<kr) then ([],e,x::rest,sent)
  else if min (n-iG ((cnt:Int)+1)) 32767-(size:Int)<1 then ([],e,x::rest,sent)
  else if sent+(min (n-iG ((cnt:Int)+1)) 32767-(size:Int)).toNat<x.length then
   ([(x.drop sent).take (min (n-iG ((cnt:Int)+1)) 32767-(size:Int)).toNat],false,x::rest,sent+(min (n-iG ((cnt:Int)+1)) 32767-(size:Int)).toNat)
  else (x.drop sent::(oQ n f rest 0 (cnt+1) (x.length-sent) (size+(x.length-sent)) true).1,(oQ n f rest 0 (cnt+1) (x.length-sent) (size+(x.length-sent)) true).2)
def pG (op:List UInt8) (sm:Bool):List (List UInt8)→Bool→List (List UInt8) × List UInt8 × Bool
 | [],_=>([],op,sm)
 | [p],e=>if e then ([op++p],[],false) else ([],op++p,true)
 |p::q::r,e=>((op++p)::(pG [] false (q::r) e).1,(pG [] false (q::r) e).2)
structure Rs (bD:List (List UInt8)) (sent:Nat) (e:Bool) (R:List (List UInt8) × Bool × List (List UInt8) × Nat):Prop where
 none_:R.1= []→R=([],e,bD,sent)
 some_:R.1≠ []→∃g,bD=g++R.2.2.1∧pG ((bD.headD []).take sent) (decide (0<sent)) R.1 R.2.1=(g,(R.2.2.1.headD []).take R.2.2.2,decide (0<R.2.2.2))
 lt_:∀x r,R.2.2.1=x::r→R.2.2.2<x.length
 z_:R.2.2.1= []→R.2.2.2=0
theorem nO {bD:List (List UInt8)} {sent:Nat} {e:Bool} (h1:∀x r,bD=x::r→sent<x.length) (h2:bD= []→sent=0):Rs bD sent e ([],e,bD,sent):=
 ⟨fun _=>rfl,fun h=>absurd rfl h,h1,h2⟩
theorem Gt (n:Int):∀(f:Nat) (bD:List (List UInt8)) (sent cnt kr size:Nat) (e:Bool),(∀s∈bD,1≤s.length)→(∀x r,bD=x::r→sent<x.length)→(bD= []→sent=0)→
 Rs bD sent e (oQ n f bD sent cnt kr size e)
 |0,bD,sent,cnt,kr,size,e,_,h1,h2=>by rw[oQ];exact nO h1 h2
 |f+1,[],sent,cnt,kr,size,e,_,h1,h2=>by rw[oQ];exact nO h1 h2
 |f+1,x::rest,sent,cnt,kr,size,e,hp,h1,h2=>by
  have hs:=h1 x rest rfl;rw[oQ];split
  ·exact nO h1 h2
  split
  ·exact nO h1 h2
  rename_i hroom;have hr1:1≤(min (n-iG ((cnt:Int)+1)) 32767-(size:Int)).toNat:=by omega
  generalize (min (n-iG ((cnt:Int)+1)) 32767-(size:Int)).toNat=room at*;split
  ·rename_i hlt;refine ⟨(fun h=>by cases h),(fun _=>⟨[],rfl,?_⟩),(fun y r hy=> ?_),(fun h=>by cases h)⟩
   ·have e1:x.take sent++(x.drop sent).take room=x.take (sent+room):=by rw[List.take_add]
    simp only[pG,Bool.false_eq_true,if_false,List.headD_cons,e1];rw[show decide (0<sent+room)=true by simp;omega]
   ·simp only[List.cons.injEq] at hy;obtain ⟨rfl,_⟩:=hy;exact hlt
  ·have ih:=Gt n f rest 0 (cnt+1) (x.length-sent) (size+(x.length-sent)) true (fun s hs=>hp s (by simp[hs])) (fun y r hy=>by have:=hp y (by simp[hy]);omega) (fun _=>rfl);generalize oQ n f rest 0 (cnt+1) (x.length-sent) (size+(x.length-sent)) true=R at*;refine ⟨(fun h=>by cases h),(fun _=> ?_),ih.lt_,ih.z_⟩;obtain ⟨q,e',s',t'⟩:=R;cases q with
   |nil=>
    have hR:=ih.none_ rfl;cases hR;exact ⟨[x],rfl,by simp[pG]⟩
   |cons a b=>
    obtain ⟨g,hg1,hg2⟩:=ih.some_ (by simp);refine ⟨x::g,by rw[List.cons_append,←hg1],?_⟩;simp only[pG,List.headD_cons];rw[List.take_append_drop];simp only[List.take_zero,Nat.lt_irrefl,decide_false] at hg2;rw[hg2]
structure Ee (cnt size:Nat) (q:List (List UInt8)):Prop where
 num:cnt≤64→cnt+q.length≤64
 pos:∀p∈q,1≤p.length
 short:∀i,i+1<q.length→(q[i]?.getD []).length≤2047
 sum:size≤32767→size+ah q≤32767
theorem kJ (cnt size:Nat):Ee cnt size []:=⟨fun h=>by simpa using h,by simp,fun i hi=>by simp at hi,fun h=>by simpa[ah] using h⟩
theorem LB (n:Int) (f:Nat) (bD:List (List UInt8)) (sent cnt kr size:Nat) (e:Bool) (hc:0<cnt) (hl:2047<kr):(oQ n f bD sent cnt kr size e).1= []:=by
 cases f with
 |zero=>rfl
 |succ f=>
  cases bD with
  |nil=>rfl
  |cons x r=>rw[oQ,if_pos (.inr ⟨hc,hl⟩)]
theorem AZ (n:Int):∀(f:Nat) (bD:List (List UInt8)) (sent cnt kr size:Nat) (e:Bool),(∀s∈bD,1≤s.length)→(∀x r,bD=x::r→sent<x.length)→
 Ee cnt size (oQ n f bD sent cnt kr size e).1
 |0,bD,sent,cnt,kr,size,e,_,_=>by rw[oQ];exact kJ _ _
 |f+1,[],sent,cnt,kr,size,e,_,_=>by rw[oQ];exact kJ _ _
 |f+1,x::rest,sent,cnt,kr,size,e,hp,h1=>by
  have hs:=h1 x rest rfl;rw[oQ];split
  ·exact kJ _ _
  rename_i hc;split
  ·exact kJ _ _
  rename_i hroom;have hr1:1≤(min (n-iG ((cnt:Int)+1)) 32767-(size:Int)).toNat:=by omega
  have hr2:size+(min (n-iG ((cnt:Int)+1)) 32767-(size:Int)).toNat≤32767:=by omega
  generalize (min (n-iG ((cnt:Int)+1)) 32767-(size:Int)).toNat=room at*;split
  ·rename_i hlt;have hl:((x.drop sent).take room).length=room:=by rw[List.length_take,List.length_drop];omega
   refine ⟨fun h=>by simp;omega,fun p hm=> ?_,fun i hi=>by simp at hi,fun h=> ?_⟩
   ·simp only[List.mem_singleton] at hm;rw[hm,hl];exact hr1
   ·simp only[ah,List.map_cons,List.map_nil,List.sum_cons,List.sum_nil,hl];omega
  ·rename_i hge;have ih:=AZ n f rest 0 (cnt+1) (x.length-sent) (size+(x.length-sent)) true (fun s hs=>hp s (by simp[hs])) (fun y r hy=>by have:=hp y (by simp[hy]);omega);have hlong:=LB n f rest 0 (cnt+1) (x.length-sent) (size+(x.length-sent)) true (by omega);generalize (oQ n f rest 0 (cnt+1) (x.length-sent) (size+(x.length-sent)) true).1=q at*;have hl:(x.drop sent).length=x.length-sent:=List.length_drop;refine ⟨fun h=> ?_,fun p hm=> ?_,fun i hi=> ?_,fun h=> ?_⟩
   ·have:=ih.num (by omega);simp;omega
   ·simp only[List.mem_cons] at hm;rcases hm with rfl|hm
    ·omega
    ·exact ih.pos p hm
   ·cases i with
    |zero=>
     simp only[List.getElem?_cons_zero,Option.getD_some];rw[hl];rcases Nat.lt_or_ge 2047 (x.length-sent) with hg|hg
     ·rw[hlong hg] at hi;simp at hi
     ·exact hg
    |succ i=>
     have:=ih.short i (by simp at hi;omega);simpa using this
   ·have:=ih.sum (by omega);simp only[ah,List.map_cons,List.sum_cons,hl] at this ⊢;omega
theorem Ba (n:Int) (f:Nat) (bD:List (List UInt8)) (sent:Nat) (e:Bool) (hp:∀s∈bD,1≤s.length) (h1:∀x r,bD=x::r→sent<x.length) (hne:(oQ n f bD sent 0 0 0 e).1≠ []):qQ (oQ n f bD sent 0 0 0 e).1:=by
 have h:=AZ n f bD sent 0 0 0 e hp h1;have hpos:1≤(oQ n f bD sent 0 0 0 e).1.length:=List.length_pos_iff.2 hne;exact ⟨hpos,by have:=h.num (by omega);omega,h.pos,h.short,by have:=h.sum (by omega);omega⟩
end
section
structure Ou where
 sn:Nat
 s:Bool
 e:Bool
 ps:List (List UInt8)
 aV:Bool
 pend:List (Nat × Nat)
 dz:Nat
def aF (x:Ou):Nat:=ah x.ps
structure Cf where
 KY:Int
 byte:Int
 timer:Int
 reorder:Int
 gF:Int
 dz:Int
 cap:Int
structure Sd where
 queue:List (List UInt8)
 done:Nat
 front:Nat
 taken:Nat
 first:Nat
 out:List Ou
 dD:Nat
 bytes:Nat
 polled:Nat
 wait:Bool
 fE:Int
 dW:Bool
 failed:Bool
 now:Int
def dB:Sd:=⟨[],0,0,0,0,[],0,0,0,false,0,false,false,0⟩
def bM (st:Sd):Nat:=ah st.queue
def bJ (st:Sd):Nat:=(st.first+st.out.length)%1024
def nP (x:Ou):Bool:= !x.pend.isEmpty
def fZ (l:List Ou):Option Nat:=l.findIdx? nP
def jD (st:Sd):Bool:=(fZ st.out).isNone&&(decide (st.taken=bM st)||decide (512≤st.out.length))
def gG (c:Cf) (x:Ou) (l:List (Nat × Nat)):Ou × Bool:=
 if x.pend= [] then ({x with pend:=l,dz:=x.dz+1},decide (c.dz<((x.dz+1:Nat):Int))) else ({x with pend:=l},false)
def bW (st:Sd) (now:Int):Sd:= {st with now:=if st.now<now then now else st.now}
def kC (st:Sd) (i:Nat) (R:Ou × Bool):Sd:= {st with out:=st.out.set i R.1,failed:=st.failed||R.2}
def bK (c:Cf) (st:Sd):Sd:=
 if jD st=false then st
 else match st.out.findIdx? (fun x=> !x.aV) with
  |none=>st
  |some i=>match st.out[i]? with
   |none=>st
   |some x=>kC st i (gG c x [(0,aF x-1)])
def gH (c:Cf) (st:Sd):Sd:=
 if st.wait=false∨st.now<st.fE then st else bK c {st with wait:=false,dW:=true}
def eX (c:Cf) (st:Sd) (now:Int):Sd:=gH c (bW st now)
def aN:List (List UInt8)→Nat→List (List UInt8) × Nat
 | [],k=>([],k)
 |x::r,k=>if x.length≤k then aN r (k-x.length) else (x::r,k)
def sj (st:Sd) (c:Cf):Sd:= {st with dD:=0,bytes:=0,dW:=false,polled:=(bJ st+1023)%1024,wait:=true,fE:=IntKind.i64.wrap (st.now+c.timer)}
def bZ (c:Cf) (st:Sd) (polls:Bool):Sd × Bool:=
 if (polls||st.dW||jD st)=true then (sj st c,true) else (st,false)
def eF (st:Sd) (x:Ou):Sd:= {st with out:=st.out++ [x],taken:=st.taken+aF x,dD:=st.dD+1,bytes:=st.bytes+aF x}
def mO (c:Cf) (st:Sd):Bool:=(decide (0<c.KY)&&decide (c.KY≤(st.dD:Int)))||(decide (0<c.byte)&&decide (c.byte≤(st.bytes:Int)))
def dL (n:Int) (st:Sd):Ou:=
 let q:=aN st.queue st.taken
 let R:=oQ n (q.1.length+1) q.1 q.2 0 0 0 false
 ⟨bJ st,decide (q.2=0),R.2.1,R.1,false,[],0⟩
def ji (c:Cf) (n:Int) (st:Sd):Sd × Option (Ou × Bool):=
 if 512≤st.out.length then (st,none)
 else if (dL n st).ps= [] then (st,none)
 else
  let s1:=eF st (dL n st)
  let R:=bZ c s1 (mO c s1)
  (R.1,some (dL n st,R.2))
def aO:List Ou→Nat × Nat × List Ou
 | []=>(0,0,[])
 |x::r=>if x.aV=true then let R:=aO r;(R.1+1,R.2.1+aF x,R.2.2) else (0,0,x::r)
def d9:List (List UInt8)→Nat→Nat × Nat × Nat × List (List UInt8)
 | [],f=>(0,0,f,[])
 |x::r,f=>if x.length≤f then let R:=d9 r (f-x.length);(R.1+1,R.2.1+x.length,R.2.2.1,R.2.2.2) else (0,0,f,x::r)
def dX (st:Sd):Sd:=
 let A:=aO st.out
 let Q:=d9 st.queue (st.front+A.2.1)
 {st with out:=A.2.2,first:=(st.first+A.1)%1024,front:=Q.2.2.1,taken:=st.taken-Q.2.1,queue:=Q.2.2.2,done:=st.done+Q.1}
def bS (c:Cf) (miss:Ou→List (Nat × Nat)) (x:Ou):Ou × Bool:=
 if x.aV=true then (x,false)
 else if miss x= [] then ({x with aV:=true,pend:= []},false)
 else gG c x (miss x)
def gV (st:Sd) (sn:Nat):Nat:=(sn+1024-st.first)%1024
def aL (c:Cf) (miss:Ou→List (Nat × Nat)) (n:Nat) (l:List Ou):List Ou × Bool:=
 ((l.take n).map (fun x=>(bS c miss x).1)++l.drop n,(l.take n).any (fun x=>(bS c miss x).2))
def iE (c:Cf) (miss:Ou→List (Nat × Nat)) (n:Nat) (st:Sd):Sd:=
 let R:=aL c miss n st.out
 let s1:= {st with out:=R.1,failed:=st.failed||R.2,wait:=st.wait&&decide (n≤gV st st.polled)}
 let s2:=dX s1
 if s2.dW=true then bK c s2 else s2
def gq (st:Sd) (x:List UInt8):Sd:= {st with queue:=st.queue++ [x]}
end
section
def sizes (l:List Ou):Nat:=(l.map aF).sum
theorem fF (x:Ou) (r:List Ou):sizes (x::r)=aF x+sizes r:=by simp[sizes]
theorem kP (a b:List Ou):sizes (a++b)=sizes a+sizes b:=by simp[sizes]
theorem iA (x:List UInt8) (r:List (List UInt8)):ah (x::r)=x.length+ah r:=by simp[ah]
theorem jZ (a b:List (List UInt8)):ah (a++b)=ah a+ah b:=by simp[ah]
structure InvV (st:Sd):Prop where
 tk:st.taken=st.front+sizes st.out
 le:st.taken≤bM st
 pos:∀x∈st.queue,1≤x.length
 l8:∀x∈st.out,1≤aF x
 ak:∀x∈st.out,x.aV=true→x.pend= []
 pr:∀x∈st.out,∀r∈x.pend,r.1≤r.2
 w:st.out.length≤512
 f:st.first<1024
 pl:st.taken=bM st→st.out≠ []→st.polled=(st.first+st.out.length+1023)%1024
structure oL (st:Sd):Prop extends InvV st where
 fr:∀x r,st.queue=x::r→st.front<x.length
 hd:∀x r,st.out=x::r→x.aV=false
def Ef (st:Sd):Prop:=st.taken=bM st→st.wait=false→
 (∀(i:Nat) (x:Ou),st.out[i]? =some x→x.aV=false→x.pend= []→∃(j:Nat) (y:Ou),i<j∧st.out[j]? =some y∧y.pend≠ [])∨(st.dW=true∧∃x∈st.out,x.pend≠ [])
structure bP (st:Sd):Prop extends oL st where
 ti:Ef st
theorem pI {l:List Ou}:fZ l=none↔∀x∈l,x.pend= []:=by
 unfold fZ;rw[List.findIdx?_eq_none_iff];simp[nP]
theorem gW {l:List Ou} {i:Nat} (h:fZ l=some i):∃x,l[i]? =some x∧x.pend≠ []∧∀j y,j<i→l[j]? =some y→y.pend= []:=by
 unfold fZ at h;obtain ⟨hi,h1,h2⟩:=List.findIdx?_eq_some_iff_getElem.1 h;refine ⟨l[i],List.getElem?_eq_getElem hi,by simpa[nP] using h1,fun j y hj hy=> ?_⟩;have:=h2 j hj;obtain ⟨hl,rfl⟩:=List.getElem?_eq_some_iff.1 hy;simpa[nP] using this
theorem xK {st:Sd}:jD st=true↔(∀x∈st.out,x.pend= [])∧(st.taken=bM st∨512≤st.out.length):=by
 unfold jD;rw[Bool.and_eq_true,Option.isNone_iff_eq_none,pI];simp
theorem oL.new:bP dB where
 tk:=rfl
 le:=by simp[dB,bM,ah]
 pos:=by simp[dB]
 l8:=by simp[dB]
 ak:=by simp[dB]
 pr:=by simp[dB]
 w:=by simp[dB]
 f:=by simp[dB]
 pl:=fun _ h=>absurd rfl h
 fr:=by simp[dB]
 hd:=by simp[dB]
 ti:=fun _ _=> .inl (by simp[dB])
theorem su {l:List Ou} {i:Nat} {z x:Ou} (h:x∈l.set i z):x=z∨x∈l:=by
 rcases List.mem_or_eq_of_mem_set h with h|h
 ·exact .inr h
 ·exact .inl h
theorem JG {l:List Ou} {i:Nat} {x z:Ou} (hx:l[i]? =some x) (hz:aF z=aF x):sizes (l.set i z)=sizes l:=by
 induction l generalizing i with
 |nil=>simp at hx
 |cons a r ih=>
  cases i with
  |zero=>
   simp at hx;subst hx;simp only[List.set_cons_zero,fF,hz]
  |succ i=>simp only[List.set_cons_succ,fF,ih (by simpa using hx)]
theorem oL.IY {st:Sd} (h:oL st) {i:Nat} {x z:Ou} (hx:st.out[i]? =some x) (hps:z.ps=x.ps) (ha:z.aV=x.aV) (hn:x.aV=true→z.pend= []) (hp:∀r∈z.pend,r.1≤r.2) (b:Bool):
 oL {st with out:=st.out.set i z,failed:=b}:=by
 have hxm:x∈st.out:=List.mem_of_getElem? hx;have hsz:aF z=aF x:=by unfold aF;rw[hps]
 refine {tk:= ?_,le:=h.le,pos:=h.pos,l8:=fun y hy=> ?_,ak:=fun y hy hya=> ?_,pr:=fun y hy=> ?_,w:=by simpa using h.w,f:=h.f,pl:=fun h1 h2=> ?_,fr:=h.fr,hd:=fun y r hy=> ?_}
 ·show st.taken=st.front+sizes (st.out.set i z)
  rw[JG hx hsz];exact h.tk
 ·rcases su hy with rfl|hy
  ·rw[hsz];exact h.l8 x hxm
  ·exact h.l8 y hy
 ·rcases su hy with rfl|hy
  ·exact hn (ha ▸ hya)
  ·exact h.ak y hy hya
 ·rcases su hy with rfl|hy
  ·exact hp
  ·exact h.pr y hy
 ·show st.polled=(st.first+(st.out.set i z).length+1023)%1024
  rw[List.length_set];refine h.pl h1 (fun e=> ?_);rw[e] at hx;simp at hx
 ·have hy':st.out.set i z=y::r:=hy;cases hl:st.out with
  |nil=>rw[hl] at hy';simp at hy'
  |cons a t=>
   have ha0:=h.hd a t hl;rw[hl] at hy' hx;cases i with
   |zero=>
    simp at hx hy';rw[←hy'.1,ha,←hx];exact ha0
   |succ i=>
    simp at hy';rw[←hy'.1];exact ha0
theorem oL.clock {st:Sd} (h:oL st) (now:Int):oL (bW st now):= {tk:=h.tk,le:=h.le,pos:=h.pos,l8:=h.l8,ak:=h.ak,pr:=h.pr,w:=h.w,f:=h.f,pl:=h.pl,fr:=h.fr,hd:=h.hd}
theorem Ef.clock {st:Sd} (h:Ef st) (now:Int):Ef (bW st now):=h
theorem bP.clock {st:Sd} (h:bP st) (now:Int):bP (bW st now):= {h.tooL.clock now with ti:=h.ti.clock now}
theorem wL (c:Cf) (x:Ou) (l:List (Nat × Nat)):(gG c x l).1.ps=x.ps∧(gG c x l).1.aV=x.aV∧(gG c x l).1.pend=l∧(gG c x l).1.sn=x.sn∧(gG c x l).1.s=x.s∧(gG c x l).1.e=x.e:=by
 unfold gG;split<;>exact ⟨rfl,rfl,rfl,rfl,rfl,rfl⟩
theorem oL.nQ {st:Sd} (c:Cf) (h:oL st) (ho:st.dW=true):bP (bK c st):=by
 unfold bK;by_cases hi:jD st=false
 ·rw[if_pos hi];refine {h with ti:=fun h1 _=> ?_};have hn:¬((∀x∈st.out,x.pend= [])∧(st.taken=bM st∨512≤st.out.length)):=fun e=>by rw[xK.2 e] at hi;cases hi
  refine .inr ⟨ho,?_⟩;refine Classical.byContradiction fun hc=>hn ⟨fun x hx=> ?_,.inl h1⟩
  exact Classical.byContradiction fun hp=>hc ⟨x,hx,hp⟩
 ·rw[if_neg hi];cases hl:st.out with
  |nil=>
   simp only[List.findIdx?_nil];exact {h with ti:=fun _ _=> .inl (by rw[hl];simp)}
  |cons x r=>
   have hx:=h.hd x r hl;have hf:(x::r).findIdx? (fun x=> !x.aV)=some 0:=by rw[List.findIdx?_cons];simp[hx]
   rw[hf];simp only[List.getElem?_cons_zero];obtain ⟨p1,p2,p3,_⟩:=wL c x [(0,aF x-1)];have hw:=h.IY (i:=0) (x:=x) (z:=(gG c x [(0,aF x-1)]).1) (by rw[hl];rfl) p1 p2 (fun e=>by rw[hx] at e;cases e) (fun q hq=>by rw[p3] at hq;simp at hq;rw[hq];exact Nat.zero_le _) (st.failed||(gG c x [(0,aF x-1)]).2);refine {hw with ti:=fun _ _=> .inr ⟨ho,(gG c x [(0,aF x-1)]).1,?_,by rw[p3];simp⟩};show _∈st.out.set 0 _
   rw[hl];simp
theorem bP.O0 {st:Sd} (c:Cf) (h:bP st):bP (gH c st):=by
 unfold gH;split
 ·exact h
 ·refine oL.nQ c ?_ rfl;exact {tk:=h.tk,le:=h.le,pos:=h.pos,l8:=h.l8,ak:=h.ak,pr:=h.pr,w:=h.w,f:=h.f,pl:=h.pl,fr:=h.fr,hd:=h.hd}
theorem bP.tick {st:Sd} (c:Cf) (h:bP st) (now:Int):bP (eX c st now):=(h.clock now).O0 c
theorem bP.qR {st:Sd} (h:bP st) {x:List UInt8} (hx:1≤x.length):bP (gq st x):=by
 have hh:bM (gq st x)=bM st+x.length:=by simp only[bM,gq,jZ,iA];simp[ah]
 have hle:=h.le;have hne:(gq st x).taken=bM (gq st x)→False:=fun e=>by
  rw[hh] at e;have:(gq st x).taken=st.taken:=rfl;omega
 refine {tk:=h.tk,le:= ?_,pos:=fun y hy=> ?_,l8:=h.l8,ak:=h.ak,pr:=h.pr,w:=h.w,f:=h.f,pl:=fun e=>(hne e).elim,fr:=fun y r hy=> ?_,hd:=h.hd,ti:=fun e=>(hne e).elim}
 ·rw[hh];show st.taken≤_
  omega
 ·simp only[gq,List.mem_append,List.mem_singleton] at hy;rcases hy with hy|rfl
  ·exact h.pos y hy
  ·exact hx
 ·show st.front<y.length
  cases hq:st.queue with
  |nil=>
   have hz:bM st=0:=by simp[bM,hq,ah]
   have:=h.tk;have e:st.queue++ [x]=y::r:=hy;rw[hq] at e;simp at e;rw[←e.1];omega
  |cons a t=>
   have e:st.queue++ [x]=y::r:=hy;rw[hq] at e;simp at e;rw[←e.1];exact h.fr a t hq
theorem oL.finish {st:Sd} (c:Cf) (h:InvV st) (hfr:∀x r,st.queue=x::r→st.front<x.length) (hhd:∀x r,st.out=x::r→x.aV=false) (b:Bool)
 (hpl:(b||st.dW||jD st)=false→st.taken=bM st→st.out≠ []→st.polled=(st.first+st.out.length+1023)%1024) (hti:(b||st.dW||jD st)=false→Ef st):bP (bZ c st b).1:=by
 unfold bZ;by_cases hc:(b||st.dW||jD st)=true
 ·rw[if_pos hc];refine {tk:=h.tk,le:=h.le,pos:=h.pos,l8:=h.l8,ak:=h.ak,pr:=h.pr,w:=h.w,f:=h.f,pl:=fun _ h2=> ?_,fr:=hfr,hd:=hhd,ti:=fun _ e=>by cases e};show (bJ st+1023)%1024=(st.first+st.out.length+1023)%1024
  unfold bJ;omega
 ·rw[if_neg hc];exact {h with pl:=hpl (by simpa using hc),fr:=hfr,hd:=hhd,ti:=hti (by simpa using hc)}
theorem bP.again {st:Sd} (c:Cf) (h:bP st) {i:Nat} {x:Ou} (hp:fZ st.out=some i) (hx:st.out[i]? =some x) {l:List (Nat × Nat)} (hl:∀r∈l,r.1≤r.2):
 bP (bZ c {st with out:=st.out.set i {x with pend:=l}} false).1:=by
 obtain ⟨x',hx',hxp,hbe⟩:=gW hp;rw[hx] at hx';cases hx';have hil:i<st.out.length:=(List.getElem?_eq_some_iff.1 hx).1;have hxa:x.aV=false:=by
  cases ha:x.aV with
  |false=>rfl
  |true=>exact absurd (h.ak x (List.mem_of_getElem? hx) ha) hxp
 have hw:=h.tooL.IY hx (z:= {x with pend:=l}) rfl rfl (fun e=>by rw[hxa] at e;cases e) hl st.failed;refine oL.finish c hw.toInvV hw.fr hw.hd false (fun _=>hw.pl) (fun hno=> ?_);simp only[Bool.false_or,Bool.or_eq_false_iff] at hno;obtain ⟨abw,WI⟩:=hno;intro h1 h2;have hidle:¬((∀y∈st.out.set i {x with pend:=l},y.pend= [])∧(st.taken=bM st∨512≤(st.out.set i {x with pend:=l}).length)):=fun e=>by rw[xK.2 e] at WI;cases WI
 have hex:∃y∈st.out.set i {x with pend:=l},y.pend≠ []:=Classical.byContradiction fun hc=>hidle ⟨fun y hy=>Classical.byContradiction fun hp=>hc ⟨y,hy,hp⟩,.inl h1⟩
 obtain ⟨y,hym,hyp⟩:=hex;obtain ⟨k,hk⟩:=List.mem_iff_getElem?.1 hym;have hki:i≤k:=by
  rcases Nat.lt_or_ge k i with hlt|hge
  ·rw[List.getElem?_set_ne (by omega)] at hk;exact absurd (hbe k y hlt hk) hyp
  ·exact hge
 rcases h.ti h1 h2 with ht|⟨ho,_⟩
 ·refine .inl fun j z hz hza hzp=> ?_
  have hz':(st.out.set i {x with pend:=l})[j]? =some z:=hz;by_cases hji:j=i
  ·subst hji;rw[List.getElem?_set_self hil] at hz';cases hz';have hkne:k≠j:=fun e=>by
    subst e;rw[List.getElem?_set_self hil] at hk;cases hk;exact hyp hzp
   exact ⟨k,y,by omega,hk,hyp⟩
  ·rw[List.getElem?_set_ne (by omega)] at hz';obtain ⟨q,v,hq,hv,hvp⟩:=ht j z hz' hza hzp;by_cases hqi:q=i
   ·subst hqi;exact ⟨k,y,by omega,hk,hyp⟩
   ·exact ⟨q,v,hq,by show (st.out.set i _)[q]? =some v;rw[List.getElem?_set_ne (by omega)];exact hv,hvp⟩
 ·have:st.dW=false:=abw;rw[this] at ho;cases ho
end
end Go.Proofs.YtbhiklnljiehiaaGreat
