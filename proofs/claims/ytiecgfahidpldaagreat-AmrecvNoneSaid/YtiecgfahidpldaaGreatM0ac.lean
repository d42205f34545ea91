/- umpdu: Header, Lengths, Size. umpdu.Valid: the two predicates, IndexFunc, ContainsFunc. Printed by wip/gen_u1.py. umpdu.Valid: conditions that are closures, all of them. umpdu.Valid. umpdu.Encode. Plain mathematics: what a transmitter's chunk is, and how its parts join. amsend: what a transmitter computes (plain functions). amsend: what holds between the calls; AmsendHolds (plain). amsend: new PDUs, reports; AmsendHolds' plain law. amsend: reports; AmsendHolds' plain law. Plain mathematics: what cutting a PDU comes to. amsend: what a grant gives (plain). amsend: AmsendBytes' plain law. amsend: AmsendWindow's plain law. amsend: status reports (plain). -/
import Derived.Test.YtiecgfahidpldaaGreatM0aa
import Derived.Test.YtiecgfahidpldaaGreatM0ab
import Derived.Laws.EntriesVeiled
import Derived.StillTailTactics
import Derived.Deep.RegionHeld3
namespace Go.Proofs.YtiecgfahidpldaaGreat
open Go.RowKit Go.Shelf
attribute [local go_sem] Oper.semAt_some
theorem lC:(Tryz.prog.info? 3).map (fun i=>(i.zero,i.size,i.bytes))=some (some (.int .i64 0),1,8):=by kernel_rfl
theorem sI:Tryz.prog.underlying 162=some (.slice 3):=by kernel_rfl
theorem oZ {k:IntKind} {a b:Int} (h:a=b):Ending.returned (.int k a)= .returned (.int k b):=by rw[h]
theorem aG {a b:Bool} (h:a=b):Ending.returned (.bool a)= .returned (.bool b):=by rw[h]
def lens (ps:List (List UInt8)):List Value:=ps.map fun p=> .int .i64 (p.length:Nat)
theorem uW (ps:List (List UInt8)) (k:Nat) (h:k<ps.length):lens (ps.take (k+1))=lens (ps.take k)++ [.int .i64 ((ps[k]?.getD []).length:Nat)]:=by
 unfold lens;rw[List.take_add_one,List.getElem?_eq_getElem h,List.map_append];rfl
def uX (w:World) (ps:List (List UInt8)) (e:Ending) (w':World):Prop:=
 ∃g v,e= .returned (.func (.func 162) #[] #[.pointer (some ⟨g,0,none⟩)])∧w.heap.size≤g∧av w' g 162 #[v]∧w'.ownsRow w.heap.size 3 1 v ps.length (lens ps)∧Below w.heap.size w w'
set_option maxRecDepth 3000 in
set_option maxHeartbeats 1000000 in
theorem qF (s e:Bool) (A:Option Addr) (n c:Nat) (vs:List Value) (ps:List (List UInt8)) (w:World) (h:eH w w.heap.size A n c vs ps) (hn:n≤1048576):
 Calls Tryz.prog 125 #[.agg #[.bool s,.bool e,.slice A n c]] w (uX w ps):=by
 obtain ⟨i0,hi,hz0,hz1,hz2⟩:=info_parts lC;have HL:=Lib.hid h.len;have hA:=h.alloc (Nat.le_refl _) (.cells #[.bool s,.bool e,.slice A n c] 70);go_enter Tryz.func125,Tryz.ntmps125;go_wp2
 go_loopw [9] (fun i wr=>∃(k:Nat) (v:Value),k≤n∧i= .int .i64 k∧av wr w.heap.size 70 #[.bool s,.bool e,.slice A n c]∧av wr (w.heap.size+1) 162 #[v]∧wr.ownsRow w.heap.size 3 1 v k (lens (ps.take k))∧Below w.heap.size w wr) (fun i _=>n-(intOf i).toNat)
 case atStart=>exact ⟨0,_,Nat.zero_le _,rfl,(av.new w _ _).alloc _,by simpa using av.new (w.alloc (.cells #[.bool s,.bool e,.slice A n c] 70)) 162 #[.slice none 0 0],World.ownsRow_nil _ _ _ _,((Below.refl _ w).alloc (Nat.le_refl _) _).alloc (by simp) _⟩
 case round=>
  obtain ⟨k,v,hk,rfl,hb0,hb1,hown,hbw⟩:=hrel;by_cases hlt:k<n
  ·obtain ⟨ad,Ai,ci,rfl,hb,hc,hsl⟩:=(h.below hbw).get hlt;have hs1:=uW ps k (by rw[HL.out];exact hlt);have hl:(ps[k]?.getD []).length≤9223372036854775807:=by have:=hsl.cap;have:=hsl.mx;omega
   generalize ps[k]?.getD []=p at*;generalize lens (List.take k ps)=L at*;have rZ:=Lib.hid hs1;clear hs1;have c1:=hb1.cell 0;have f1:=hb1.frozen 0;simp at c1;go_wp2_with (at_builtin;refine wpList_append_own _ rfl _ _ 162 rfl w.heap.size 3 i0 (.int .i64 0) 1 8 sI hi hz0 hz1 hz2 rfl (by decide) _ _ _ rfl (hown.alloc _) ⟨wr.heap.size,0,none⟩ 1 1 [.int .i64 (p.length:Nat)] rfl rfl ?c1 ?c2 ?c3 ?c4 ?c5 ?_)
   case c1=>exact cell_one_new _ _ _
   case c2=>simp[Value.oneCell']
   case c3=>unfold maxLen;omega
   case c4=>omega
   case c5=>have:=hbw.size;simp;omega
   intro v' w2 hown' hgrow _;have hne:v.ownBlock≠some (w.heap.size+1):=au hown hb1 (by decide);have hne0:v.ownBlock≠some w.heap.size:=au hown hb0 (by decide);have hb1':=(hb1.alloc (.cells #[.int .i64 (p.length:Nat)] 3)).grown hgrow (fun e=>hne e.symm);have Ja:=(hb0.alloc (.cells #[.int .i64 (p.length:Nat)] 3)).grown hgrow (fun e=>hne0 e.symm);have Jb:=(hbw.alloc hbw.size (.cells #[.int .i64 (p.length:Nat)] 3)).grown hgrow (by have:=hbw.size;simp;omega) (fun j hj=>(hown.lt j hj).1);have c1':=hb1'.cell 0;have Oy:=hb1'.frozen 0;simp at c1';obtain ⟨g',cap',rfl,hgl,qB⟩:=hown'.form (by omega);go_wp2
   go_roundw
   case rel=>
    refine ⟨k+1,_,by omega,by go_num,Ja.far (by simp) _,by simpa using hb1'.aF 0 (.slice (some ⟨g',0,none⟩) (k+1) cap'),?_,Jb.setCell (p:=⟨w.heap.size+1,0,none⟩) (by simp) _⟩;rw[rZ.out];exact hown'.kept (ay _ _ 0 _) (.inr (au hown' hb1' (by decide)))
   case measure=>simp[intOf];omega
  ·have e:ps.take k=ps:=List.take_of_length_le (by rw[HL.out];omega);have hkn:k=ps.length:=by rw[HL.out];omega
   rw[e,hkn] at hown;clear e hkn;go_wp2;go_ret;exact ⟨_,_,rfl,by omega,hb1,hown,hbw⟩
abbrev IL:= {x:Nat × Nat//x.2≤1099511627776}
def lD (ps:List (List UInt8)) (h:∀p∈ps,p.length≤1099511627776) (k:Nat):List IL:=
 (List.range k).map fun i=>⟨(i,(ps[i]?.getD []).length),by
  rcases Nat.lt_or_ge i ps.length with hi|hi
  ·rw[List.getElem?_eq_getElem hi];exact h _ (List.getElem_mem hi)
  ·rw[List.getElem?_eq_none hi];simp⟩
theorem nX (ps:List (List UInt8)) (h:∀p∈ps,p.length≤1099511627776) (k:Nat) (x:IL) (hx:x.1=(k,(ps[k]?.getD []).length)):lD ps h (k+1)=lD ps h k++ [x]:=by
 unfold lD;rw[List.range_succ,List.map_append]
 congr 1
 simp only[List.map_cons,List.map_nil,List.cons.injEq,and_true];exact Subtype.ext hx.symm
theorem qG (ps:List (List UInt8)) (h:∀p∈ps,p.length≤1099511627776) (k:Nat):(lD ps h k).length=k:=by simp[lD]
set_option maxRecDepth 100000 in
set_option maxHeartbeats 2000000 in
theorem lF (n:Nat) (hn:1≤n) (g B:Nat) (v:Value) (ps:List (List UInt8)) (hle:∀p∈ps,p.length≤1099511627776) (hlen:ps.length≤1048576) (M:Nat→Obj→Prop) (w:World)
 (hg:av w g 162 #[v]) (hv:w.ownsRow B 3 1 v ps.length (lens ps)) (Mk:¬M g (.cells #[v] 162 (0,0))) (Em:∀k o,v.ownBlock=some k→¬M k o):
 SeqStopsK Fence.wide n Tryz.prog 162 #[.pointer (some ⟨g,0,none⟩)] (fun x:IL=> #[Value.int .i64 (x.1.1:Nat),.int .i64 (x.1.2:Nat)]) (Kept M)
  (fun xs=>xs=lD ps hle ps.length) (fun pre=>∃k,k≤ps.length∧pre=lD ps hle k) ps.length w:=fun l J Jx W hW _ _ hY h0=>by
 have hg':=hg.below hW hg.lt;have hv':W.ownsRow B 3 1 v ps.length (lens ps):=hv.kept (row:=none) ⟨hW.os,hW.tape,hW.output,hW.size,fun k hk _=>hW.block k hk⟩ (by
  rcases hb:v.ownBlock with _|k
  ·exact .inl rfl
  ·exact .inr (by simp))
 have hvk:∀wr,Kept M W wr→wr.ownsRow B 3 1 v ps.length (lens ps):=by
  intro wr hk;rcases hv'.2 with ⟨rfl,h0⟩|⟨g',cap,cur,rfl,h1,h2,h3⟩
  ·exact ⟨hv'.1,.inl ⟨rfl,h0⟩⟩
  ·exact ⟨hv'.1,.inr ⟨g',cap,cur,rfl,h1,hk.same _ _ h2 (Em _ _ rfl),h3⟩⟩
 have Jc:=Lib.hid hvk;clear hvk;obtain ⟨A,c,rfl,hsl,_⟩:=aK hv';refine callsIn_of_wp Tryz.func162 rfl trivial ?_ rfl;simp only[Tryz.ntmps162,List.size_toArray,List.length_cons,List.length_nil,Nat.reduceAdd,Nat.reduceSub,Array.replicate_succ,Array.replicate_zero,List.push_toArray,List.append_toArray,List.nil_append,List.cons_append];have hcw:=hg'.cell 0;simp at hcw;refine dW ?_
 gi_wp2
 refine wpIn_label ?_
 gi_wp2
 gi_loopw [7] (fun i wr=>∃k:Nat,k≤ps.length∧i= .int .i64 k∧J (lD ps hle k) wr∧Kept M W wr)
  (fun i _=>ps.length-(intOf i).toNat)
 case atStart=>exact ⟨0,Nat.zero_le _,by simp,by simpa[lD] using h0,Kept.refl _ _⟩
 case round=>
  obtain ⟨k,hk,rfl,hJs,hnx⟩:=hrel;by_cases hlt:k<ps.length
  ·obtain ⟨A',c',e',hs',_⟩:=aK (Jc.out wr hnx);injection e' with e1 e2 e3
   subst e1 e3;obtain ⟨ad,u,rfl,_,hu,hcell⟩:=hs'.get hlt;have hp:(ps[k]?.getD []).length≤1099511627776:=by
    rw[List.getElem?_eq_getElem hlt];exact hle _ (List.getElem_mem _)
   have hu':u= .int .i64 ((ps[k]?.getD []).length:Nat):=by
    unfold lens at hu;rw[List.getElem?_map,List.getElem?_eq_getElem hlt] at hu;rw[List.getElem?_eq_getElem hlt];simpa using hu.symm
   have hsucc:=nX ps hle k ⟨(k,(ps[k]?.getD []).length),hp⟩ rfl;have yZ:=hY _ ⟨(k,(ps[k]?.getD []).length),hp⟩ wr hJs (by rw[qG];exact hlt);rw[hu'] at hcell;clear hu hu';have Bd:=Lib.hid hsucc;clear hsucc;generalize (ps[k]?.getD []).length=m at*;obtain ⟨fn,tmps,assign,body,hy,hR⟩:=yZ;dsimp only at hy
   gi_wp2
   refine hR.mono ?_;rintro e W3 (⟨rfl,hJ3,hk3⟩|⟨rfl,hJx3⟩)
   ·gi_wp2
    go_roundw
    case rel=>exact ⟨k+1,by omega,by go_num,by rw[Bd.out];exact hJ3,hnx.trans hk3⟩
    case measure=>simp[intOf];omega
   ·gi_wp2
    rw[Exit.noGoto_normal]
    go_end0
    exact ⟨⟨_,rfl⟩,.inr ⟨_,⟨k+1,by omega,Bd.out.symm⟩,hJx3⟩⟩
  ·have e:k=ps.length:=by omega
   have xh:J (lD ps hle ps.length) wr:=by rw[e] at hJs;exact hJs
   clear e hJs
   gi_wp2
   rw[Exit.noGoto_normal]
   go_end0
   exact ⟨⟨_,rfl⟩,.inl ⟨_,rfl,xh⟩⟩
def iO (l:List IL):Nat:=(l.map fun x=>x.1.2).sum
theorem lG (l:List IL) (x:IL):iO (l++ [x])=iO l+x.1.2:=by simp[iO]
theorem xk (l:List IL):iO l≤1099511627776*l.length:=by
 induction l with
 |nil=>simp[iO]
 |cons x l ih=>
  have:=x.2;unfold iO at ih ⊢;rw[List.map_cons,List.sum_cons,List.length_cons];omega
theorem sJ (ps:List (List UInt8)) (h:∀p∈ps,p.length≤1099511627776) (k:Nat) (hk:k≤ps.length):iO (lD ps h k)=aB (ps.take k):=by
 induction k with
 |zero=>rfl
 |succ k ih=>
  have hp:(ps[k]?.getD []).length≤1099511627776:=by
   rw[List.getElem?_eq_getElem (by omega)];exact h _ (List.getElem_mem _)
  rw[nX ps h k ⟨_,hp⟩ rfl,lG,dX ps k (by omega),ih (by omega)]
theorem zD {β:Type} (g:Nat) (t:TypeId) (f:β→Array Value):Own (fun s W=>av W g t (f s)):=fun s X Y row hs hg hrow=>
 hs.grown hg (fun e'=>by obtain ⟨o,ho,hc⟩:=hrow g e'.symm;rw[show X.heap[g]? =_ from hs] at ho;cases ho;cases hc)
set_option maxRecDepth 100000 in
set_option maxHeartbeats 2000000 in
theorem lH (s e:Bool) (A:Option Addr) (n c:Nat) (vs:List Value) (ps:List (List UInt8)) (w:World) (h:eH w w.heap.size A n c vs ps) (hn:n≤1048576) (hle:∀p∈ps,p.length≤1099511627776):
 Calls Tryz.prog 72 #[.agg #[.bool s,.bool e,.slice A n c]] w fun e w'=>e= .returned (.int .i64 (aB ps))∧Below w.heap.size w w':=by
 refine (callsIn_wide (n:=5)).1 ?_;have HL:=Lib.hid h.len;refine callsIn_of_wp_marks Tryz.func72 rfl trivial ?_ rfl;simp only[Tryz.ntmps72,List.size_toArray,List.length_cons,List.length_nil,Nat.reduceAdd,Nat.reduceSub,Array.replicate_succ,Array.replicate_zero,List.push_toArray,List.append_toArray,List.nil_append,List.cons_append];have hA:=(h.alloc (Nat.le_refl _) (.cells #[.bool s,.bool e,.slice A n c] 70)).alloc (by simp) (.cells #[.int .i64 0] 3);have hA:=hA.more (B':=((w.alloc (.cells #[.bool s,.bool e,.slice A n c] 70)).alloc (.cells #[.int .i64 0] 3)).heap.size) (by simp;omega);have HA:=Lib.hid hA;clear hA
 gi_wp2_with (refine ⟨trivial,?_⟩;gi_at_call 125;refine ((callsIn_wide (n:=4)).2 (qF s e A n c vs ps _ HA.out hn)).mono ?_;rintro e1 w1 ⟨g,v,rfl,hg,hbg,hv,hbw⟩)
 have hr0:av ((w.alloc (.cells #[.bool s,.bool e,.slice A n c] 70)).alloc (.cells #[.int .i64 0] 3)) (w.heap.size+1) 3 #[.int .i64 0]:=by
  simpa using av.new (w.alloc (.cells #[.bool s,.bool e,.slice A n c] 70)) 3 #[.int .i64 0]
 have hr1:=hr0.below hbw hr0.lt;have hgn:g≠w.heap.size+1:=by simp at hg;omega
 have Oz:∀k,v.ownBlock=some k→k≠w.heap.size+1:=fun k hk=>by have:=(hv.lt k hk).1;simp at this;omega
 have hB1:Below w.heap.size w w1:=((Below.refl _ w).alloc (Nat.le_refl _) _).alloc (by simp) _ |>.trans (hbw.mono (by simp;omega));have hsz:w.heap.size+1<w1.heap.size:=hr1.lt;refine wpIn_rangeFunc_ownG rfl (by omega) (gf:=162) (lb:= #[.pointer (some ⟨g,0,none⟩)]) rfl trivial (enters_of Tryz.func162 (by kernel_rfl) rfl)
  (lF _ (by omega) g _ v ps hle (by rw[HL.out];exact hn) (MB (fun k _=>k=w.heap.size+1) w1.heap.size) w1 hbg hv (by rintro (e|⟨_,e⟩);exact hgn e;cases e) (fun k o hk=>by
   rintro (e|⟨e,_⟩)
   ·exact Oz k hk e
   ·have:=(hv.lt k hk).2;omega))
  Kept.trans (MB.b w1) (Below.refl _ _) (fun _=>rfl)
  (fun pre W=>av W (w.heap.size+1) 3 #[.int .i64 (iO pre)]∧Kept (MB (fun k _=>k=w.heap.size+1) w1.heap.size) w1 W) (fun _ _ _=>False)
  (OwnFrom.and (Own.from (zD _ _ _) _) jh) (fun _ _ _ _ _ hs _ _=>hs)
  ⟨by simpa[iO] using hr1,Kept.refl _ _⟩
  (fun x=> {tmps:= #[.agg #[.bool s,.bool e,.slice A n c],.pointer (some ⟨w.heap.size,0,none⟩),.pointer (some ⟨w.heap.size+1,0,none⟩),undef,.int .i64 (x.1.2:Nat),.agg #[.bool s,.bool e,.slice A n c],.func (.func 162) #[] #[.pointer (some ⟨g,0,none⟩)],.int .i64 (x.1.1:Nat),.int .i64 (x.1.2:Nat),undef,undef,undef,undef],defers:= []}) ?assign ?body ?done ?stop
 case assign=>
  intro l x W K hK
  gi_wp2
  exact hK
 case body=>
  rintro lp pre x W ⟨hbx,rY⟩ hlen;have hc:=hbx.cell 0;have hf:=hbx.frozen 0;simp at hc;have hx:=x.2;have hsl:=xk pre;have hsn:=lG pre x;have Be:=Lib.hid hsn;clear hsn;generalize iO pre=S at*;have hlen':pre.length<1048576:=by have:=HL.out;omega
  obtain ⟨⟨xi,xl⟩,hxl⟩:=x;dsimp only at*
  gi_wp2
  refine ⟨(KeepsOthers.setCell _ _ _).from _,(Kept.refl _ W).setCell (p:=⟨w.heap.size+1,0,none⟩) (fun _ _=> .inl rfl) _,?_,rY.setCell (p:=⟨w.heap.size+1,0,none⟩) (fun _ _=> .inl rfl) _⟩;rw[Be.out];simpa using hbx.aF 0 (.int .i64 ((S:Int)+xl))
 case done=>
  rintro D ys W hD rfl ⟨hbx,rY⟩ hK;have hc:=hbx.cell 0;have hf:=hbx.frozen 0;simp at hc;have hS:=sJ ps hle ps.length (Nat.le_refl _);rw[List.take_of_length_le (Nat.le_refl _)] at hS;rw[hS] at hc hbx;clear hS;generalize hSS:aB ps=S at*;have Bf:=Lib.hid hSS;clear hSS;have hK2:=(KeepsOthers.setCell W ⟨w.heap.size+1,0,none⟩ (.int .i64 S)).same D _ hK rfl
  gi_wp2
  refine ⟨by simp,.inl ⟨_,_,rfl,run_takeDeferred hK2,?_⟩⟩;have Jd:=(rY.setCell (p:=⟨w.heap.size+1,0,none⟩) (fun _ _=> .inl rfl) (.int .i64 S)).taken (.deferred none) hD hK2 rfl;have Je:=(hbx.aF 0 (.int .i64 S)).grown (grownBy_putObj' _ D (.deferred none)) (by simp;omega);have hc2:=Je.cell 0;simp at hc2;refine ⟨.int .i64 S,by simp[results,Tryz.results72,go_sem,hc2],oZ (by rw[Bf.out]),hB1.trans (Jd.drop.below (fun k o e=>by omega) (by omega))⟩
 case stop=>
  rintro D c pre W _ _ h _;exact h.elim
end Go.Proofs.YtiecgfahidpldaaGreat
namespace Go.Proofs.YtiecgfahidpldaaGreat
open Go.RowKit
def dK (n:Nat):Bool:=decide (n=0)
def fQ (n:Nat):Bool:=decide (2047<n)
def Bg (q:List UInt8→Bool) (ps:List (List UInt8)) (w:World) (e:Ending) (w':World):Prop:=
 (∃k:Nat,e= .returned (.int .i64 k)∧(∃p∈ps,q p=true)∧w=w')∨(e= .returned (.int .i64 (-1))∧(∀p∈ps,q p=false)∧w=w')
theorem nY (A:Option Addr) (n c:Nat) (w:World):Calls Tryz.prog 154 #[.slice A n c] w fun e w'=>e= .returned (.bool (dK n))∧w=w':=by
 have hd:((n:Int)==0)=dK n:=by unfold dK;rw[Bool.eq_iff_iff];simp;try omega
 generalize dK n=r at*;go_enter Tryz.func154,Tryz.ntmps154;go_wp2;go_ret
 first|exact ⟨rfl,rfl⟩|exact ⟨aG hd,rfl⟩
set_option maxHeartbeats 400000 in
theorem lI (A:Option Addr) (n c:Nat) (vs:List Value) (ps:List (List UInt8)) (w:World) (h:eH w w.heap.size A n c vs ps):
 Calls Tryz.prog 176 #[.slice A n c,.func (.func 154) #[] #[]] w (Bg (fun p=>dK p.length) ps w):=by
 have HL:=Lib.hid h.len;have hn63:n≤9223372036854775807:=by have:=h.sl.cap;have:=h.sl.mx;omega
 go_enter Tryz.func176,Tryz.ntmps176;go_wp2
 go_loop [8] (fun i=>∃k:Nat,k≤n∧i= .int .i64 k∧∀p∈ps.take k,dK p.length=false) (fun i=>n-(intOf i).toNat)
 case atStart=>exact ⟨0,Nat.zero_le _,rfl,by simp⟩
 case round=>
  obtain ⟨k,hk,rfl,hall⟩:=hrel;have HA:=Lib.hid hall;clear hall;by_cases hlt:k<n
  ·obtain ⟨ad,Ai,ci,rfl,hb,hc,hsl⟩:=h.get hlt;have hkl:k<ps.length:=by rw[HL.out];exact hlt
   have hin:ps[k]?.getD []∈ps:=by rw[List.getElem?_eq_getElem hkl];exact List.getElem_mem _
   have htk:ps.take (k+1)=ps.take k++ [ps[k]?.getD []]:=by rw[List.take_add_one,List.getElem?_eq_getElem hkl];rfl
   generalize ps[k]?.getD []=p at*;have HT:=Lib.hid htk;have HI:=Lib.hid hin;clear htk hin hkl;cases hq:dK p.length with
   |false=>
    have HQ:=Lib.hid hq;have bS:=nY Ai p.length ci w;rw[hq] at bS;have HF:=Lib.hid bS;clear bS hq;go_wp2_with (go_at_call 154;refine HF.out.mono ?_;rintro e w' ⟨rfl,rfl⟩)
    go_round
    case rel=>exact ⟨k+1,by omega,by go_num,by
     intro q hq;rw[HT.out,List.mem_append] at hq;rcases hq with hq|hq
     ·exact HA.out q hq
     ·rw[List.mem_singleton] at hq;rw[hq];exact HQ.out⟩
    case measure=>simp[intOf];omega
   |true=>
    have HQ:=Lib.hid hq;have bS:=nY Ai p.length ci w;rw[hq] at bS;have HF:=Lib.hid bS;clear bS hq;go_wp2_with (go_at_call 154;refine HF.out.mono ?_;rintro e w' ⟨rfl,rfl⟩);go_ret;exact .inl ⟨k,rfl,⟨p,HI.out,HQ.out⟩,rfl⟩
  ·have e:ps.take k=ps:=List.take_of_length_le (by rw[HL.out];omega);have hA:=HA.out;rw[e] at hA;have uY:=Lib.hid hA;clear hA e;go_wp2;go_ret;exact .inr ⟨rfl,uY.out,rfl⟩
theorem jq (A:Option Addr) (n c:Nat) (vs:List Value) (ps:List (List UInt8)) (w:World) (h:eH w w.heap.size A n c vs ps):
 Calls Tryz.prog 159 #[.slice A n c,.func (.func 154) #[] #[]] w fun e w'=>e= .returned (.bool (ps.any fun p=>dK p.length))∧w=w':=by
 go_enter Tryz.func159,Tryz.ntmps159;go_wp2_with fail;refine (lI A n c vs ps w h).mono ?_;rintro e w' (⟨k,rfl,⟨p,hp,hq⟩,rfl⟩|⟨rfl,hall,rfl⟩)
 ·have hany:(ps.any fun p=>dK p.length)=true:=by rw[List.any_eq_true];exact ⟨p,hp,hq⟩
  have HA:=Lib.hid hany;clear hany;go_wp2;go_ret;exact ⟨aG (by rw[HA.out]),rfl⟩
 ·have hany:(ps.any fun p=>dK p.length)=false:=by rw[List.any_eq_false];intro p hp;have:=hall p hp;dsimp only at this;rw[this];simp
  have HA:=Lib.hid hany;clear hany hall;go_wp2;go_ret;exact ⟨aG (by rw[HA.out]),rfl⟩
theorem qH (A:Option Addr) (n c:Nat) (w:World):Calls Tryz.prog 155 #[.slice A n c] w fun e w'=>e= .returned (.bool (fQ n))∧w=w':=by
 have hd:(decide (2047<(n:Int)))=fQ n:=by unfold fQ;rw[Bool.eq_iff_iff];simp;try omega
 generalize fQ n=r at*;go_enter Tryz.func155,Tryz.ntmps155;go_wp2;go_ret
 first|exact ⟨rfl,rfl⟩|exact ⟨aG hd,rfl⟩
set_option maxHeartbeats 400000 in
theorem nD (A:Option Addr) (n c:Nat) (vs:List Value) (ps:List (List UInt8)) (w:World) (h:eH w w.heap.size A n c vs ps):
 Calls Tryz.prog 176 #[.slice A n c,.func (.func 155) #[] #[]] w (Bg (fun p=>fQ p.length) ps w):=by
 have HL:=Lib.hid h.len;have hn63:n≤9223372036854775807:=by have:=h.sl.cap;have:=h.sl.mx;omega
 go_enter Tryz.func176,Tryz.ntmps176;go_wp2
 go_loop [8] (fun i=>∃k:Nat,k≤n∧i= .int .i64 k∧∀p∈ps.take k,fQ p.length=false) (fun i=>n-(intOf i).toNat)
 case atStart=>exact ⟨0,Nat.zero_le _,rfl,by simp⟩
 case round=>
  obtain ⟨k,hk,rfl,hall⟩:=hrel;have HA:=Lib.hid hall;clear hall;by_cases hlt:k<n
  ·obtain ⟨ad,Ai,ci,rfl,hb,hc,hsl⟩:=h.get hlt;have hkl:k<ps.length:=by rw[HL.out];exact hlt
   have hin:ps[k]?.getD []∈ps:=by rw[List.getElem?_eq_getElem hkl];exact List.getElem_mem _
   have htk:ps.take (k+1)=ps.take k++ [ps[k]?.getD []]:=by rw[List.take_add_one,List.getElem?_eq_getElem hkl];rfl
   generalize ps[k]?.getD []=p at*;have HT:=Lib.hid htk;have HI:=Lib.hid hin;clear htk hin hkl;cases hq:fQ p.length with
   |false=>
    have HQ:=Lib.hid hq;have bS:=qH Ai p.length ci w;rw[hq] at bS;have HF:=Lib.hid bS;clear bS hq;go_wp2_with (go_at_call 155;refine HF.out.mono ?_;rintro e w' ⟨rfl,rfl⟩)
    go_round
    case rel=>exact ⟨k+1,by omega,by go_num,by
     intro q hq;rw[HT.out,List.mem_append] at hq;rcases hq with hq|hq
     ·exact HA.out q hq
     ·rw[List.mem_singleton] at hq;rw[hq];exact HQ.out⟩
    case measure=>simp[intOf];omega
   |true=>
    have HQ:=Lib.hid hq;have bS:=qH Ai p.length ci w;rw[hq] at bS;have HF:=Lib.hid bS;clear bS hq;go_wp2_with (go_at_call 155;refine HF.out.mono ?_;rintro e w' ⟨rfl,rfl⟩);go_ret;exact .inl ⟨k,rfl,⟨p,HI.out,HQ.out⟩,rfl⟩
  ·have e:ps.take k=ps:=List.take_of_length_le (by rw[HL.out];omega);have hA:=HA.out;rw[e] at hA;have uY:=Lib.hid hA;clear hA e;go_wp2;go_ret;exact .inr ⟨rfl,uY.out,rfl⟩
theorem jW (A:Option Addr) (n c:Nat) (vs:List Value) (ps:List (List UInt8)) (w:World) (h:eH w w.heap.size A n c vs ps):
 Calls Tryz.prog 159 #[.slice A n c,.func (.func 155) #[] #[]] w fun e w'=>e= .returned (.bool (ps.any fun p=>fQ p.length))∧w=w':=by
 go_enter Tryz.func159,Tryz.ntmps159;go_wp2_with fail;refine (nD A n c vs ps w h).mono ?_;rintro e w' (⟨k,rfl,⟨p,hp,hq⟩,rfl⟩|⟨rfl,hall,rfl⟩)
 ·have hany:(ps.any fun p=>fQ p.length)=true:=by rw[List.any_eq_true];exact ⟨p,hp,hq⟩
  have HA:=Lib.hid hany;clear hany;go_wp2;go_ret;exact ⟨aG (by rw[HA.out]),rfl⟩
 ·have hany:(ps.any fun p=>fQ p.length)=false:=by rw[List.any_eq_false];intro p hp;have:=hall p hp;dsimp only at this;rw[this];simp
  have HA:=Lib.hid hany;clear hany hall;go_wp2;go_ret;exact ⟨aG (by rw[HA.out]),rfl⟩
end Go.Proofs.YtiecgfahidpldaaGreat
namespace Go.Proofs.YtiecgfahidpldaaGreat
open Go.RowKit
theorem eH.drew' {w:World} {B n c:Nat} {A:Option Addr} {vs:List Value} {ps:List (List UInt8)} (h:eH w B A n c vs ps):eH w.drew B A n c vs ps:=⟨h.sl.drew,h.len,fun i p hi=>let ⟨Ai,ci,e,hs⟩:=h.each i p hi;⟨Ai,ci,e,hs.drew⟩⟩
theorem eH.Cc {w:World} {n c:Nat} {A:Option Addr} {vs:List Value} {ps:List (List UInt8)} (h:eH w w.heap.size A n c vs ps) (k:Nat):eH (w.drewN k) (w.drewN k).heap.size A n c vs ps:=⟨h.sl.drewN k,h.len,fun i p hi=>let ⟨Ai,ci,e,hs⟩:=h.each i p hi;⟨Ai,ci,e,hs.drewN k⟩⟩
theorem eH.pre {w:World} {B n c k:Nat} {A:Option Addr} {vs:List Value} {ps:List (List UInt8)} (h:eH w B A n c vs ps) (hk:k≤n):eH w B A k k (vs.take k) (ps.take k):=by
 refine ⟨⟨by rw[List.length_take,h.sl.len];omega,Nat.le_refl _,by have:=h.sl.cap;have:=h.sl.mx;omega,fun hp=> ?_⟩,by rw[List.length_take,h.len];omega,fun i p hi=> ?_⟩
 ·obtain ⟨ad,e,hb,hc⟩:=h.sl.at_ (by omega);refine ⟨ad,e,hb,fun j u hu=>hc j u ?_⟩;rw[List.getElem?_take] at hu;split at hu
  ·exact hu
  ·cases hu
 ·rw[List.getElem?_take] at hi;split at hi
  ·obtain ⟨Ai,ci,e,hs⟩:=h.each i p hi;exact ⟨Ai,ci,by rw[List.getElem?_take,if_pos (by assumption)];exact e,hs⟩
  ·cases hi
def nZ (bs:List Bool) (Inv:World→Prop) (e:Ending) (w':World):Prop:=
 ((∃k:Nat,e= .returned (.int .i64 k)∧bs.all id=false)∨(e= .returned (.int .i64 (-1))∧bs.all id=true))∧Inv w'
set_option maxHeartbeats 400000 in
theorem o5 (b:Nat) (dF:List Value) (bs:List Bool) (Inv:World→Prop) (w:World) (hlen:bs.length=dF.length) (hsm:dF.length≤1000) (hI:∀W,Inv W→av W b 27 dF.toArray)
 (hcall:∀(i:Nat) (fv:Value) (x:Bool) (W:World),dF[i]? =some fv→bs[i]? =some x→(∀y∈bs.take i,y=true)→Inv W→Calls Tryz.prog 175 #[fv] W fun e W'=>e= .returned (.bool (!x))∧Inv W')
 (h0:Inv w):Calls Tryz.prog 174 #[.slice (some ⟨b,0,none⟩) dF.length dF.length,.func (.func 175) #[] #[]] w (nZ bs Inv):=by
 have HC:=Lib.hid hcall;have HI:=Lib.hid hI;have HL:=Lib.hid hlen;clear hcall hI hlen;obtain ⟨N,hN⟩:∃N,N=dF.length:=⟨_,rfl⟩
 rw[←hN] at hsm ⊢;have HN:=Lib.hid hN;clear hN;go_enter Tryz.func174,Tryz.ntmps174;go_wp2
 go_loopw [8] (fun i wr=>∃k:Nat,k≤N∧i= .int .i64 k∧(∀y∈bs.take k,y=true)∧Inv wr) (fun i _=>N-(intOf i).toNat)
 case atStart=>exact ⟨0,Nat.zero_le _,rfl,by simp,h0⟩
 case round=>
  clear h0;obtain ⟨k,hk,rfl,hall,hinv⟩:=hrel;have HA:=Lib.hid hall;clear hall;by_cases hlt:k<N
  ·obtain ⟨fv,bS⟩:∃fv,dF[k]? =some fv:=⟨_,List.getElem?_eq_getElem (by rw[←HN.out];exact hlt)⟩
   obtain ⟨x,hx⟩:∃x,bs[k]? =some x:=⟨_,List.getElem?_eq_getElem (by rw[HL.out,←HN.out];exact hlt)⟩
   have hcl:=HC.out k fv x wr bS hx HA.out hinv;have hcell:=(HI.out wr hinv).cell k;rw[List.getElem?_toArray,bS] at hcell;have qI:=Lib.hid hcl;have HX:=Lib.hid hx;clear hcl bS hx;cases x with
   |true=>
    go_wp2_with (go_at_call 175;refine qI.out.mono ?_;rintro e w' ⟨rfl,hi'⟩)
    go_roundw
    case rel=>exact ⟨k+1,by omega,by go_num,by
     intro y hy;rw[List.take_add_one,HX.out,List.mem_append] at hy;rcases hy with hy|hy
     ·exact HA.out y hy
     ·simpa using hy,hi'⟩
    case measure=>simp[intOf];omega
   |false=>
    go_wp2_with (go_at_call 175;refine qI.out.mono ?_;rintro e w' ⟨rfl,hi'⟩);go_ret;refine ⟨.inl ⟨k,rfl,?_⟩,hi'⟩;rw[List.all_eq_false];exact ⟨false,List.mem_of_getElem? HX.out,by simp⟩
  ·have e:bs.take k=bs:=List.take_of_length_le (by rw[HL.out,←HN.out];omega);have hA:=HA.out;rw[e] at hA;have uY:=Lib.hid hA;clear hA e;go_wp2;go_ret;exact ⟨.inr ⟨rfl,by rw[List.all_eq_true];exact uY.out⟩,hinv⟩
theorem kM (b:Nat) (dF:List Value) (bs:List Bool) (Inv:World→Prop) (w:World)
 (h:Calls Tryz.prog 174 #[.slice (some ⟨b,0,none⟩) dF.length dF.length,.func (.func 175) #[] #[]] w (nZ bs Inv)):
 Calls Tryz.prog 152 #[.slice (some ⟨b,0,none⟩) dF.length dF.length,.func (.func 175) #[] #[]] w fun e w'=>e= .returned (.bool (!bs.all id))∧Inv w':=by
 have H:=Lib.hid h;clear h;go_enter Tryz.func152,Tryz.ntmps152;go_wp2_with fail;refine H.out.mono ?_;rintro e w' ⟨⟨k,rfl,ha⟩|⟨rfl,ha⟩,hi⟩
 ·have HA:=Lib.hid ha;clear ha;go_wp2;go_ret;exact ⟨aG (by rw[HA.out];rfl),hi⟩
 ·have HA:=Lib.hid ha;clear ha;go_wp2;go_ret;exact ⟨aG (by rw[HA.out];rfl),hi⟩
theorem zF (b:Nat) (dF:List Value) (bs:List Bool) (Inv:World→Prop) (w:World)
 (h:Calls Tryz.prog 152 #[.slice (some ⟨b,0,none⟩) dF.length dF.length,.func (.func 175) #[] #[]] w fun e w'=>e= .returned (.bool (!bs.all id))∧Inv w'):
 Calls Tryz.prog 156 #[.slice (some ⟨b,0,none⟩) dF.length dF.length] w fun e w'=>e= .returned (.bool (bs.all id))∧Inv w':=by
 have H:=Lib.hid h;clear h;go_enter Tryz.func156,Tryz.ntmps156;go_wp2_with fail;refine H.out.mono ?_;rintro e w' ⟨rfl,hi⟩;go_wp2;go_ret;exact ⟨aG (by simp),hi⟩
end Go.Proofs.YtiecgfahidpldaaGreat
namespace Go.Proofs.YtiecgfahidpldaaGreat
open Go.RowKit
def fH (ps:List (List UInt8)):List Bool:=
 [decide (1≤ps.length∧ps.length≤64),!(ps.any fun p=>dK p.length),!((ps.take (ps.length-1)).any fun p=>fQ p.length),decide (aB ps≤32767)]
def iV (ps:List (List UInt8)):Bool:=(fH ps).all id
theorem Ce (bn n:Nat) (w:World) (h:av w bn 3 #[.int .i64 n]):
 Calls Tryz.prog 157 #[.pointer (some ⟨bn,0,none⟩)] w fun e w'=>e= .returned (.bool (decide (1≤n∧n≤64)))∧w=w':=by
 have hc:=h.cell 0;simp at hc;by_cases h1:1≤n
 ·by_cases h2:n≤64
  ·have hd:decide (1≤n∧n≤64)=true:=by simp;omega
   rw[hd];clear hd;go_enter Tryz.func157,Tryz.ntmps157;go_wp2;go_ret;exact ⟨aG (by simp;omega),rfl⟩
  ·have hd:decide (1≤n∧n≤64)=false:=by simp;omega
   rw[hd];clear hd;go_enter Tryz.func157,Tryz.ntmps157;go_wp2;go_ret;exact ⟨aG (by simp;omega),rfl⟩
 ·have hd:decide (1≤n∧n≤64)=false:=by simp;omega
  rw[hd];clear hd;go_enter Tryz.func157,Tryz.ntmps157;go_wp2;go_ret;exact ⟨rfl,rfl⟩
theorem Cg (bc be:Nat) (s e:Bool) (A:Option Addr) (n c:Nat) (vs:List Value) (ps:List (List UInt8)) (w:World) (h:eH w w.heap.size A n c vs ps)
 (hc:av w bc 70 #[.bool s,.bool e,.slice A n c]) (he:av w be 210 #[.func (.func 154) #[] #[]]):
 Calls Tryz.prog 158 #[.pointer (some ⟨bc,0,none⟩),.pointer (some ⟨be,0,none⟩)] w fun e w'=>e= .returned (.bool (!(ps.any fun p=>dK p.length)))∧w=w':=by
 have hc2:=hc.cell 2;have he0:=he.cell 0;simp at hc2 he0;have hct:=jq A n c vs ps w h;have HC:=Lib.hid hct;clear hct;generalize (ps.any fun p=>dK p.length)=r at*;go_enter Tryz.func158,Tryz.ntmps158;go_wp2_with (go_at_call 159;refine HC.out.mono ?_;rintro e w' ⟨rfl,rfl⟩);go_ret;exact ⟨rfl,rfl⟩
set_option maxHeartbeats 400000 in
theorem Ch (bc bn bl:Nat) (s e:Bool) (A:Option Addr) (n c:Nat) (vs:List Value) (ps:List (List UInt8)) (w:World) (h:eH w w.heap.size A n c vs ps)
 (hc:av w bc 70 #[.bool s,.bool e,.slice A n c]) (hn:av w bn 3 #[.int .i64 n]) (hl:av w bl 210 #[.func (.func 155) #[] #[]]) (h1:1≤n):
 Calls Tryz.prog 160 #[.pointer (some ⟨bc,0,none⟩),.pointer (some ⟨bn,0,none⟩),.pointer (some ⟨bl,0,none⟩)] w fun e w'=>e= .returned (.bool (!((ps.take (n-1)).any fun p=>fQ p.length)))∧Below w.heap.size w w':=by
 have hc2:=hc.cell 2;have hn0:=hn.cell 0;have hl0:=hl.cell 0;simp at hc2 hn0 hl0;have hcap:=h.sl.cap;have hmx:=h.sl.mx;obtain ⟨m,rfl⟩:∃m,n=m+1:=⟨n-1,by omega⟩
 have hct:=fun W (hW:eH W W.heap.size A (m+1) c vs ps)=>jW A m m _ _ W (hW.pre (k:=m) (by omega))
 have e1:m+1-1=m:=by omega
 rw[e1];generalize ((ps.take m).any fun p=>fQ p.length)=r at*;have HC:=Lib.hid hct;clear hct e1;have e2:((m:Int)+1-1)=m:=by omega
 have e3:IntKind.i64.wrap ((m:Int)+1-1)=m:=by rw[e2];exact IntWalk.i64_in _ (by omega)
 go_enter Tryz.func160,Tryz.ntmps160;go_wp2
 go_quiet ((go_at_call 159;exact Calls.quiet_of_same ((HC.out _ (h.Cc _)).mono fun _ _ hh=>⟨hh.1,hh.2.symm⟩)))
 go_wp2;go_ret;exact ⟨rfl,(Below.refl _ w).drewN _⟩
theorem Ci (bc:Nat) (s e:Bool) (A:Option Addr) (n c:Nat) (vs:List Value) (ps:List (List UInt8)) (w:World) (h:eH w w.heap.size A n c vs ps) (hn:n≤1048576) (hle:∀p∈ps,p.length≤1099511627776)
 (hc:av w bc 70 #[.bool s,.bool e,.slice A n c]):
 Calls Tryz.prog 161 #[.pointer (some ⟨bc,0,none⟩)] w fun e w'=>e= .returned (.bool (decide (aB ps≤32767)))∧Below w.heap.size w w':=by
 have hc0:=hc.cell 0;have hc1:=hc.cell 1;have hc2:=hc.cell 2;simp at hc0 hc1 hc2;have hsz:=lH s e A n c vs ps w h hn hle;have HZ:=Lib.hid hsz;clear hsz hle;generalize aB ps=S at*;have hd:decide ((S:Int)≤32767)=decide (S≤32767):=by simp;omega
 generalize hr:decide (S≤32767)=r at*;clear hr;go_enter Tryz.func161,Tryz.ntmps161;go_wp2_with (go_at_call 72;refine HZ.out.mono ?_;rintro e w' ⟨rfl,hb⟩);go_ret
 first|exact ⟨rfl,hb⟩|exact ⟨aG hd,hb⟩
theorem Cj (bn:Nat) (x:Bool) (w:World) (h:Calls Tryz.prog 157 #[.pointer (some ⟨bn,0,none⟩)] w fun e w'=>e= .returned (.bool x)∧Below w.heap.size w w'):
 Calls Tryz.prog 175 #[.func (.func 157) #[] #[.pointer (some ⟨bn,0,none⟩)]] w fun e w'=>e= .returned (.bool (!x))∧Below w.heap.size w w':=by
 have H:=Lib.hid h;clear h;go_enter Tryz.func175,Tryz.ntmps175;go_wp2_with (go_at_call 157;refine H.out.mono ?_;rintro e w' ⟨rfl,hb⟩);go_ret;exact ⟨rfl,hb⟩
theorem Ck (bc be:Nat) (x:Bool) (w:World) (h:Calls Tryz.prog 158 #[.pointer (some ⟨bc,0,none⟩),.pointer (some ⟨be,0,none⟩)] w fun e w'=>e= .returned (.bool x)∧Below w.heap.size w w'):
 Calls Tryz.prog 175 #[.func (.func 158) #[] #[.pointer (some ⟨bc,0,none⟩),.pointer (some ⟨be,0,none⟩)]] w fun e w'=>e= .returned (.bool (!x))∧Below w.heap.size w w':=by
 have H:=Lib.hid h;clear h;go_enter Tryz.func175,Tryz.ntmps175;go_wp2_with (go_at_call 158;refine H.out.mono ?_;rintro e w' ⟨rfl,hb⟩);go_ret;exact ⟨rfl,hb⟩
theorem Cm (bc bn bl:Nat) (x:Bool) (w:World) (h:Calls Tryz.prog 160 #[.pointer (some ⟨bc,0,none⟩),.pointer (some ⟨bn,0,none⟩),.pointer (some ⟨bl,0,none⟩)] w fun e w'=>e= .returned (.bool x)∧Below w.heap.size w w'):
 Calls Tryz.prog 175 #[.func (.func 160) #[] #[.pointer (some ⟨bc,0,none⟩),.pointer (some ⟨bn,0,none⟩),.pointer (some ⟨bl,0,none⟩)]] w fun e w'=>e= .returned (.bool (!x))∧Below w.heap.size w w':=by
 have H:=Lib.hid h;clear h;go_enter Tryz.func175,Tryz.ntmps175;go_wp2_with (go_at_call 160;refine H.out.mono ?_;rintro e w' ⟨rfl,hb⟩);go_ret;exact ⟨rfl,hb⟩
theorem Cn (bc:Nat) (x:Bool) (w:World) (h:Calls Tryz.prog 161 #[.pointer (some ⟨bc,0,none⟩)] w fun e w'=>e= .returned (.bool x)∧Below w.heap.size w w'):
 Calls Tryz.prog 175 #[.func (.func 161) #[] #[.pointer (some ⟨bc,0,none⟩)]] w fun e w'=>e= .returned (.bool (!x))∧Below w.heap.size w w':=by
 have H:=Lib.hid h;clear h;go_enter Tryz.func175,Tryz.ntmps175;go_wp2_with (go_at_call 161;refine H.out.mono ?_;rintro e w' ⟨rfl,hb⟩);go_ret;exact ⟨rfl,hb⟩
theorem uZ (bc bn be bl b:Nat) (s e:Bool) (A:Option Addr) (n c:Nat) (vs:List Value) (ps:List (List UInt8)) (w:World) (h:eH w w.heap.size A n c vs ps) (hn:n≤1048576) (hle:∀p∈ps,p.length≤1099511627776)
 (hbc:av w bc 70 #[.bool s,.bool e,.slice A n c]) (hbn:av w bn 3 #[.int .i64 n]) (hbe:av w be 210 #[.func (.func 154) #[] #[]]) (hbl:av w bl 210 #[.func (.func 155) #[] #[]])
 (hb:av w b 27 #[.func (.func 157) #[] #[.pointer (some ⟨bn,0,none⟩)],.func (.func 158) #[] #[.pointer (some ⟨bc,0,none⟩),.pointer (some ⟨be,0,none⟩)],
  .func (.func 160) #[] #[.pointer (some ⟨bc,0,none⟩),.pointer (some ⟨bn,0,none⟩),.pointer (some ⟨bl,0,none⟩)],.func (.func 161) #[] #[.pointer (some ⟨bc,0,none⟩)]]):
 Calls Tryz.prog 156 #[.slice (some ⟨b,0,none⟩) 4 4] w fun e w'=>e= .returned (.bool (iV ps))∧Below w.heap.size w w':=by
 refine zF b [.func (.func 157) #[] #[.pointer (some ⟨bn,0,none⟩)],.func (.func 158) #[] #[.pointer (some ⟨bc,0,none⟩),.pointer (some ⟨be,0,none⟩)],
  .func (.func 160) #[] #[.pointer (some ⟨bc,0,none⟩),.pointer (some ⟨bn,0,none⟩),.pointer (some ⟨bl,0,none⟩)],.func (.func 161) #[] #[.pointer (some ⟨bc,0,none⟩)]] (fH ps) (fun W=>Below w.heap.size w W) w ?_
 refine kM b _ (fH ps) (fun W=>Below w.heap.size w W) w ?_;refine o5 b _ (fH ps) (fun W=>Below w.heap.size w W) w rfl (by simp) (fun W hW=>hb.below hW hb.lt) ?_ (Below.refl _ _);have hl:=h.len;intro i fv x W bS hx hpre hW;have hS:=(h.below hW).more hW.size;have key:Calls Tryz.prog 175 #[fv] W fun e W'=>e= .returned (.bool (!x))∧Below W.heap.size W W':=by
  match i,bS,hx,hpre with
  |0,bS,hx,_=>
   simp only[fH,List.getElem?_cons_zero,Option.some.injEq] at bS hx;subst bS hx;refine Cj bn _ W ((Ce bn n W (hbn.below hW hbn.lt)).mono fun e W' hh=>⟨?_,by rw[←hh.2];exact Below.refl _ _⟩);rw[hh.1,hl]
  |1,bS,hx,_=>
   simp only[fH,List.getElem?_cons_zero,List.getElem?_cons_succ,Option.some.injEq] at bS hx;subst bS hx;exact Ck bc be _ W ((Cg bc be s e A n c vs ps W hS (hbc.below hW hbc.lt) (hbe.below hW hbe.lt)).mono fun e W' hh=>⟨hh.1,by rw[←hh.2];exact Below.refl _ _⟩)
  |2,bS,hx,hpre=>
   have h1:1≤n:=by
    have:=hpre (decide (1≤ps.length∧ps.length≤64)) (by simp[fH]);simp at this;omega
   simp only[fH,List.getElem?_cons_zero,List.getElem?_cons_succ,Option.some.injEq] at bS hx;subst bS hx;rw[hl];exact Cm bc bn bl _ W (Ch bc bn bl s e A n c vs ps W hS (hbc.below hW hbc.lt) (hbn.below hW hbn.lt) (hbl.below hW hbl.lt) h1)
  |3,bS,hx,_=>
   simp only[fH,List.getElem?_cons_zero,List.getElem?_cons_succ,Option.some.injEq] at bS hx;subst bS hx;exact Cn bc _ W (Ci bc s e A n c vs ps W hS hn hle (hbc.below hW hbc.lt))
  |i+4,bS,_,_=>simp at bS
 exact key.mono fun e W' hh=>⟨hh.1,hW.trans (hh.2.mono hW.size)⟩
set_option maxHeartbeats 800000 in
theorem ve (s e:Bool) (A:Option Addr) (n c:Nat) (vs:List Value) (ps:List (List UInt8)) (w:World) (h:eH w w.heap.size A n c vs ps) (hn:n≤1048576) (hle:∀p∈ps,p.length≤1099511627776):
 Calls Tryz.prog 124 #[.agg #[.bool s,.bool e,.slice A n c]] w fun e w'=>e= .returned (.bool (iV ps))∧Below w.heap.size w w':=by
 have Hr:=Lib.hid hle;clear hle;have hK:=((((Kept.refl (fun k _=>w.heap.size≤k) w).alloc (.cells #[.bool s,.bool e,.slice A n c] 70)).alloc (.cells #[.int .i64 n] 3)).alloc (.cells #[.func (.func 154) #[] #[]] 210)).alloc (.cells #[.func (.func 155) #[] #[]] 210);have hB:=(hK.alloc (.cells #[.func (.func 157) #[] #[.pointer (some ⟨w.heap.size+1,0,none⟩)],.func (.func 158) #[] #[.pointer (some ⟨w.heap.size,0,none⟩),.pointer (some ⟨w.heap.size+1+1,0,none⟩)],
  .func (.func 160) #[] #[.pointer (some ⟨w.heap.size,0,none⟩),.pointer (some ⟨w.heap.size+1,0,none⟩),.pointer (some ⟨w.heap.size+1+1+1,0,none⟩)],.func (.func 161) #[] #[.pointer (some ⟨w.heap.size,0,none⟩)]] 27)).below (B:=w.heap.size) (fun _ _ h=>h) (Nat.le_refl _)
 clear hK;have b0:=av.new w 70 #[.bool s,.bool e,.slice A n c];have b1:=av.new (w.alloc (.cells #[.bool s,.bool e,.slice A n c] 70)) 3 #[.int .i64 n];have b2:=av.new ((w.alloc (.cells #[.bool s,.bool e,.slice A n c] 70)).alloc (.cells #[.int .i64 n] 3)) 210 #[.func (.func 154) #[] #[]];have b3:=av.new (((w.alloc (.cells #[.bool s,.bool e,.slice A n c] 70)).alloc (.cells #[.int .i64 n] 3)).alloc (.cells #[.func (.func 154) #[] #[]] 210)) 210 #[.func (.func 155) #[] #[]];have b4:=av.new ((((w.alloc (.cells #[.bool s,.bool e,.slice A n c] 70)).alloc (.cells #[.int .i64 n] 3)).alloc (.cells #[.func (.func 154) #[] #[]] 210)).alloc (.cells #[.func (.func 155) #[] #[]] 210)) 27 #[.func (.func 157) #[] #[.pointer (some ⟨w.heap.size+1,0,none⟩)],.func (.func 158) #[] #[.pointer (some ⟨w.heap.size,0,none⟩),.pointer (some ⟨w.heap.size+1+1,0,none⟩)],
  .func (.func 160) #[] #[.pointer (some ⟨w.heap.size,0,none⟩),.pointer (some ⟨w.heap.size+1,0,none⟩),.pointer (some ⟨w.heap.size+1+1+1,0,none⟩)],.func (.func 161) #[] #[.pointer (some ⟨w.heap.size,0,none⟩)]]
 simp only[World.size_alloc] at b1 b2 b3 b4;have hall:=uZ w.heap.size (w.heap.size+1) (w.heap.size+1+1) (w.heap.size+1+1+1) (w.heap.size+1+1+1+1) s e A n c vs ps _ ((h.below hB).more hB.size) hn Hr.out ((((b0.alloc _).alloc _).alloc _).alloc _) (((b1.alloc _).alloc _).alloc _) ((b2.alloc _).alloc _) (b3.alloc _) b4;have iW:=Lib.hid hall;have HB:=Lib.hid hB;clear hall b0 b1 b2 b3 b4 hB;generalize iV ps=r at*;go_enter Tryz.func124,Tryz.ntmps124;go_wp2_with (go_at_call 156;refine iW.out.mono ?_;rintro e w' ⟨rfl,hb⟩);go_ret;exact ⟨rfl,HB.out.trans (hb.mono HB.out.size)⟩
end Go.Proofs.YtiecgfahidpldaaGreat
namespace Go.Proofs.YtiecgfahidpldaaGreat
open Go.RowKit
theorem nE {ps:List (List UInt8)} {p:List UInt8} (h:p∈ps):p.length≤aB ps:=by
 induction ps with
 |nil=>cases h
 |cons q ps ih=>
  unfold aB at ih ⊢;rw[List.map_cons,List.sum_cons];rcases List.mem_cons.1 h with rfl|h
  ·omega
  ·have:=ih h;omega
def kG (B:Nat) (t:TypeId) (w:World) (n:Nat) (xs:List Value) (er:Int) (e:Ending) (w':World):Prop:=
 ∃v,e= .returned (.tuple #[v,.int .i64 er])∧w'.ownsRow B t 1 v n xs∧Below B w w'
end Go.Proofs.YtiecgfahidpldaaGreat
namespace Go.Proofs.YtiecgfahidpldaaGreat
section

end
section
structure Ou where
 sn:Nat
 s:Bool
 e:Bool
 ps:List (List UInt8)
 Ml:Bool
 pend:List (Nat × Nat)
 Ep:Nat
structure Cf where
 OA:Int
 byte:Int
 timer:Int
 reorder:Int
 bT:Int
 Ep:Int
 cap:Int
structure Sd where
 queue:List (List UInt8)
 done:Nat
 front:Nat
 taken:Nat
 first:Nat
 out:List Ou
 OB:Nat
 bytes:Nat
 polled:Nat
 wait:Bool
 Jf:Int
 OC:Bool
 failed:Bool
 now:Int
end
section

end
section

end
section
section
variable (c:Cf) (m:Ou→List (Nat × Nat)) (n:Nat)
end
end
section

end
section

end
section

end
section

end
section
structure Nk where
 sn:Int
 part:Bool
 fr:Int
 lt:Int
def dG (aH sn:Int):Int:=(aH-sn)%1024
def eB (aH:Int) (n:Nk):Bool:=
 (decide (0≤n.sn)&&decide (n.sn<1024))&&((decide (1≤dG aH n.sn)&&decide (dG aH n.sn≤512))&&
  (if n.part=true then decide (0≤n.fr)&&(decide (n.fr≤n.lt)&&decide (n.lt≤32767)) else decide (n.fr=0)&&decide (n.lt=0)))
def gZ (aH:Int) (a b:Nk):Bool:=
 decide (dG aH b.sn<dG aH a.sn)||(decide (a.sn=b.sn)&&(a.part&&(b.part&&decide (a.lt<b.fr))))
def iX (aH:Int):List Nk→Bool
 | []=>true
 | [n]=>eB aH n
 |a::b::r=>eB aH a&&(gZ aH a b&&iX aH (b::r))
def aZ (aH:Int) (l:List Nk):Bool:=(decide (0≤aH)&&decide (aH≤1023))&&(decide (l.length≤512)&&iX aH l)
end
end Go.Proofs.YtiecgfahidpldaaGreat
