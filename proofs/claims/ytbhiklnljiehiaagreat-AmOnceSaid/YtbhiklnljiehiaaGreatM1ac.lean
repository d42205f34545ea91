/- umpdu: Header, Lengths, Size. umpdu.Vali. -/
import Derived.Test.YtbhiklnljiehiaaGreatM1ab
import Derived.Laws.EntriesVeiled
import Derived.StillTailTactics
import Derived.Deep.RegionHeld3
namespace Go.Proofs.YtbhiklnljiehiaaGreat
open Go.RowKit Go.Shelf
attribute [local go_sem] Oper.semAt_some
theorem Aa:(Tryz.prog.info? 3).map (fun i=>(i.zero,i.size,i.bytes))=some (some (.int .i64 0),1,8):=by kernel_rfl
theorem JI:Tryz.prog.underlying 75=some (.slice 3):=by kernel_rfl
theorem nL {k:IntKind} {a b:Int} (h:a=b):Ending.returned (.int k a)= .returned (.int k b):=by rw[h]
theorem bR {a b:Bool} (h:a=b):Ending.returned (.bool a)= .returned (.bool b):=by rw[h]
def iT (n:Int):Int:=if n<1∨64<n then 0 else 2+(12*(n-1)+7)/8
set_option maxHeartbeats 400000 in
theorem JJ (n:Int) (w:World) (h: -9223372036854775808≤n∧n≤9223372036854775807):
 Calls Tryz.prog 168 #[.int .i64 n] w fun e w'=>e= .returned (.int .i64 (iT n))∧w=w':=by
 have hfin:iT n=if n<1∨64<n then 0 else 2+(12*(n-1)+7)/8:=rfl
 have HF:=ah hfin;clear hfin;generalize iT n=r at*;by_cases h1:n<1
 ·go_enter Tryz.func168,Tryz.ntmps168;go_wp2;go_ret;exact ⟨nL (by rw[HF.out,if_pos (by omega)]),rfl⟩
 ·by_cases h2:64<n
  ·go_enter Tryz.func168,Tryz.ntmps168;go_wp2;go_ret;exact ⟨nL (by rw[HF.out,if_pos (by omega)]),rfl⟩
  ·go_enter Tryz.func168,Tryz.ntmps168;go_wp2;go_ret;exact ⟨nL (by rw[HF.out,if_neg (by omega)]),rfl⟩
def lens (ps:List (List UInt8)):List Value:=ps.map fun p=> .int .i64 (p.length:Nat)
theorem Ms (ps:List (List UInt8)) (k:Nat) (h:k<ps.length):lens (ps.take (k+1))=lens (ps.take k)++ [.int .i64 ((ps[k]?.getD []).length:Nat)]:=by
 unfold lens;rw[List.take_add_one,List.getElem?_eq_getElem h,List.map_append];rfl
def Mt (w:World) (ps:List (List UInt8)) (e:Ending) (w':World):Prop:=
 ∃g v,e= .returned (.func (.func 170) #[] #[.pointer (some ⟨g,0,none⟩)])∧w.heap.size≤g∧au w' g 75 #[v]∧w'.ownsRow w.heap.size 3 1 v ps.length (lens ps)∧Below w.heap.size w w'
set_option maxRecDepth 3000 in
set_option maxHeartbeats 1000000 in
theorem GL (s e:Bool) (A:Option Addr) (n c:Nat) (vs:List Value) (ps:List (List UInt8)) (w:World) (h:jd w w.heap.size A n c vs ps) (hn:n≤1048576):
 Calls Tryz.prog 130 #[.agg #[.bool s,.bool e,.slice A n c]] w (Mt w ps):=by
 obtain ⟨i0,hi,hz0,hz1,hz2⟩:=info_parts Aa;have HL:=ah h.len;have hA:=h.alloc (aN) (.cells #[.bool s,.bool e,.slice A n c] 145);go_enter Tryz.func130,Tryz.ntmps130;go_wp2
 go_loopw [9] (fun i wr=>∃(k:Nat) (v:Value),k≤n∧i= .int .i64 k∧au wr w.heap.size 145 #[.bool s,.bool e,.slice A n c]∧au wr (w.heap.size+1) 75 #[v]∧wr.ownsRow w.heap.size 3 1 v k (lens (ps.take k))∧Below w.heap.size w wr) (fun i _=>n-(intOf i).toNat)
 case atStart=>exact ⟨0,_,Nat.zero_le _,rfl,(au.new w _ _).alloc _,by simpa using au.new (w.alloc (.cells #[.bool s,.bool e,.slice A n c] 145)) 75 #[.slice none 0 0],World.ownsRow_nil _ _ _ _,((Below.refl _ w).alloc (aN) _).alloc (by simp) _⟩
 case round=>
  obtain ⟨k,v,hk,rfl,hb0,hb1,hown,hbw⟩:=hrel;by_cases hlt:k<n
  ·obtain ⟨ad,Ai,ci,rfl,hb,hc,hsl⟩:=(h.below hbw).get hlt;have hs1:=Ms ps k (by rw[HL.out];exact hlt);have hl:(ps[k]?.getD []).length≤9223372036854775807:=by have:=hsl.cap;have:=hsl.mx;omega
   generalize ps[k]?.getD []=p at*;generalize lens (List.take k ps)=L at*;have DR:=ah hs1;clear hs1;have c1:=hb1.cell 0;have f1:=hb1.frozen 0;simp at c1;go_wp2_with (at_builtin;refine wpList_append_own _ rfl _ _ 75 rfl w.heap.size 3 i0 (.int .i64 0) 1 8 JI hi hz0 hz1 hz2 rfl (by decide) _ _ _ rfl (hown.alloc _) ⟨wr.heap.size,0,none⟩ 1 1 [.int .i64 (p.length:Nat)] rfl rfl ?c1 ?c2 ?c3 ?c4 ?c5 ?_)
   case c1=>exact cell_one_new _ _ _
   case c2=>simp[Value.oneCell']
   case c3=>unfold maxLen;omega
   case c4=>omega
   case c5=>have:=hbw.size;simp;omega
   intro v' w2 hown' hgrow _;have hne:v.ownBlock≠some (w.heap.size+1):=aK hown hb1 (by decide);have hne0:v.ownBlock≠some w.heap.size:=aK hown hb0 (by decide);have hb1':=(hb1.alloc (.cells #[.int .i64 (p.length:Nat)] 3)).grown hgrow (fun e=>hne e.symm);have aff:=(hb0.alloc (.cells #[.int .i64 (p.length:Nat)] 3)).grown hgrow (fun e=>hne0 e.symm);have afg:=(hbw.alloc hbw.size (.cells #[.int .i64 (p.length:Nat)] 3)).grown hgrow (by have:=hbw.size;simp;omega) (fun j hj=>(hown.lt j hj).1);have c1':=hb1'.cell 0;have f1':=hb1'.frozen 0;simp at c1';obtain ⟨g',cap',rfl,hgl,lT⟩:=hown'.form (by omega);go_wp2
   go_roundw
   case rel=>
    refine ⟨k+1,_,by omega,by go_num,aff.far (by simp) _,by simpa using hb1'.av 0 (.slice (some ⟨g',0,none⟩) (k+1) cap'),?_,afg.setCell (p:=⟨w.heap.size+1,0,none⟩) (by simp) _⟩;rw[DR.out];exact hown'.kept (aQ _ _ 0 _) (.inr (aK hown' hb1' (by decide)))
   case measure=>simp[intOf];omega
  ·have e:ps.take k=ps:=List.take_of_length_le (by rw[HL.out];omega);have hkn:k=ps.length:=by rw[HL.out];omega
   rw[e,hkn] at hown;clear e hkn;go_wp2;go_ret;exact ⟨_,_,rfl,by omega,hb1,hown,hbw⟩
abbrev IL:= {x:Nat × Nat//x.2≤1099511627776}
def Ab (ps:List (List UInt8)) (h:∀p∈ps,p.length≤1099511627776) (k:Nat):List IL:=
 (List.range k).map fun i=>⟨(i,(ps[i]?.getD []).length),by
  rcases Nat.lt_or_ge i ps.length with hi|hi
  ·rw[List.getElem?_eq_getElem hi];exact h _ (List.getElem_mem hi)
  ·rw[List.getElem?_eq_none hi];simp⟩
theorem DT (ps:List (List UInt8)) (h:∀p∈ps,p.length≤1099511627776) (k:Nat) (x:IL) (hx:x.1=(k,(ps[k]?.getD []).length)):Ab ps h (k+1)=Ab ps h k++ [x]:=by
 unfold Ab;rw[List.range_succ,List.map_append]
 congr 1
 simp only[List.map_cons,List.map_nil,List.cons.injEq,and_true];exact Subtype.ext hx.symm
theorem GM (ps:List (List UInt8)) (h:∀p∈ps,p.length≤1099511627776) (k:Nat):(Ab ps h k).length=k:=by simp[Ab]
set_option maxRecDepth 100000 in
set_option maxHeartbeats 2000000 in
theorem Ae (n:Nat) (hn:1≤n) (g B:Nat) (v:Value) (ps:List (List UInt8)) (hle:∀p∈ps,p.length≤1099511627776) (hlen:ps.length≤1048576) (M:Nat→Obj→Prop) (w:World)
 (hg:au w g 75 #[v]) (hv:w.ownsRow B 3 1 v ps.length (lens ps)) (hMg:¬M g (.cells #[v] 75 (0,0))) (Sr:∀k o,v.ownBlock=some k→¬M k o):
 SeqStopsK Fence.wide n Tryz.prog 170 #[.pointer (some ⟨g,0,none⟩)] (fun x:IL=> #[Value.int .i64 (x.1.1:Nat),.int .i64 (x.1.2:Nat)]) (Kept M)
  (fun xs=>xs=Ab ps hle ps.length) (fun pre=>∃k,k≤ps.length∧pre=Ab ps hle k) ps.length w:=fun l J Jx W hW _ _ hY h0=>by
 have hg':=hg.below hW hg.lt;have hv':W.ownsRow B 3 1 v ps.length (lens ps):=hv.kept (row:=none) ⟨hW.os,hW.tape,hW.output,hW.size,fun k hk _=>hW.block k hk⟩ (by
  rcases hb:v.ownBlock with _|k
  ·exact .inl rfl
  ·exact .inr (by simp))
 have hvk:∀wr,Kept M W wr→wr.ownsRow B 3 1 v ps.length (lens ps):=by
  intro wr hk;rcases hv'.2 with ⟨rfl,h0⟩|⟨g',cap,cur,rfl,h1,h2,h3⟩
  ·exact ⟨hv'.1,.inl ⟨rfl,h0⟩⟩
  ·exact ⟨hv'.1,.inr ⟨g',cap,cur,rfl,h1,hk.same _ _ h2 (Sr _ _ rfl),h3⟩⟩
 have WK:=ah hvk;clear hvk;obtain ⟨A,c,rfl,hsl,_⟩:=aS hv';refine callsIn_of_wp Tryz.func170 rfl trivial ?_ rfl;simp only[Tryz.ntmps170,List.size_toArray,List.length_cons,List.length_nil,Nat.reduceAdd,Nat.reduceSub,Array.replicate_succ,Array.replicate_zero,List.push_toArray,List.append_toArray,List.nil_append,List.cons_append];have hcw:=hg'.cell 0;simp at hcw;refine lC ?_
 gi_wp2
 refine wpIn_label ?_
 gi_wp2
 gi_loopw [7] (fun i wr=>∃k:Nat,k≤ps.length∧i= .int .i64 k∧J (Ab ps hle k) wr∧Kept M W wr)
  (fun i _=>ps.length-(intOf i).toNat)
 case atStart=>exact ⟨0,Nat.zero_le _,by simp,by simpa[Ab] using h0,Kept.refl _ _⟩
 case round=>
  obtain ⟨k,hk,rfl,hJs,hnx⟩:=hrel;by_cases hlt:k<ps.length
  ·obtain ⟨A',c',e',hs',_⟩:=aS (WK.out wr hnx);injection e' with e1 e2 e3
   subst e1 e3;obtain ⟨ad,u,rfl,_,hu,hcell⟩:=hs'.get hlt;have hp:(ps[k]?.getD []).length≤1099511627776:=by
    rw[List.getElem?_eq_getElem hlt];exact hle _ (List.getElem_mem _)
   have hu':u= .int .i64 ((ps[k]?.getD []).length:Nat):=by
    unfold lens at hu;rw[List.getElem?_map,List.getElem?_eq_getElem hlt] at hu;rw[List.getElem?_eq_getElem hlt];simpa using hu.symm
   have hsucc:=DT ps hle k ⟨(k,(ps[k]?.getD []).length),hp⟩ rfl;have Lp:=hY _ ⟨(k,(ps[k]?.getD []).length),hp⟩ wr hJs (by rw[GM];exact hlt);rw[hu'] at hcell;clear hu hu';have Va:=ah hsucc;clear hsucc;generalize (ps[k]?.getD []).length=m at*;obtain ⟨fn,tmps,assign,body,hy,hR⟩:=Lp;dsimp only at hy
   gi_wp2
   refine hR.mono ?_;rintro e W3 (⟨rfl,hJ3,hk3⟩|⟨rfl,hJx3⟩)
   ·gi_wp2
    go_roundw
    case rel=>exact ⟨k+1,by omega,by go_num,by rw[Va.out];exact hJ3,hnx.trans hk3⟩
    case measure=>simp[intOf];omega
   ·gi_wp2
    rw[Exit.noGoto_normal]
    go_end0
    exact ⟨⟨_,rfl⟩,.inr ⟨_,⟨k+1,by omega,Va.out.symm⟩,hJx3⟩⟩
  ·have e:k=ps.length:=by omega
   have JK:J (Ab ps hle ps.length) wr:=by rw[e] at hJs;exact hJs
   clear e hJs
   gi_wp2
   rw[Exit.noGoto_normal]
   go_end0
   exact ⟨⟨_,rfl⟩,.inl ⟨_,rfl,JK⟩⟩
def tH (l:List IL):Nat:=(l.map fun x=>x.1.2).sum
theorem Ag (l:List IL) (x:IL):tH (l++ [x])=tH l+x.1.2:=by simp[tH]
theorem OO (l:List IL):tH l≤1099511627776*l.length:=by
 induction l with
 |nil=>simp[tH]
 |cons x l ih=>
  have:=x.2;unfold tH at ih ⊢;rw[List.map_cons,List.sum_cons,List.length_cons];omega
theorem JL (ps:List (List UInt8)) (h:∀p∈ps,p.length≤1099511627776) (k:Nat) (hk:k≤ps.length):tH (Ab ps h k)=aj (ps.take k):=by
 induction k with
 |zero=>rfl
 |succ k ih=>
  have hp:(ps[k]?.getD []).length≤1099511627776:=by
   rw[List.getElem?_eq_getElem (by omega)];exact h _ (List.getElem_mem _)
  rw[DT ps h k ⟨_,hp⟩ rfl,Ag,iQ ps k (by omega),ih (by omega)]
theorem Sy {β:Type} (g:Nat) (t:TypeId) (f:β→Array Value):Own (fun s W=>au W g t (f s)):=fun s X Y row hs hg hrow=>
 hs.grown hg (fun e'=>by obtain ⟨o,ho,hc⟩:=hrow g e'.symm;rw[show X.heap[g]? =_ from hs] at ho;cases ho;cases hc)
set_option maxRecDepth 100000 in
set_option maxHeartbeats 2000000 in
theorem ru (s e:Bool) (A:Option Addr) (n c:Nat) (vs:List Value) (ps:List (List UInt8)) (w:World) (h:jd w w.heap.size A n c vs ps) (hn:n≤1048576) (hle:∀p∈ps,p.length≤1099511627776):
 Calls Tryz.prog 88 #[.agg #[.bool s,.bool e,.slice A n c]] w fun e w'=>e= .returned (.int .i64 (aj ps))∧Below w.heap.size w w':=by
 refine (callsIn_wide (n:=5)).1 ?_;have HL:=ah h.len;refine callsIn_of_wp_marks Tryz.func88 rfl trivial ?_ rfl;simp only[Tryz.ntmps88,List.size_toArray,List.length_cons,List.length_nil,Nat.reduceAdd,Nat.reduceSub,Array.replicate_succ,Array.replicate_zero,List.push_toArray,List.append_toArray,List.nil_append,List.cons_append];have hA:=(h.alloc (aN) (.cells #[.bool s,.bool e,.slice A n c] 145)).alloc (by simp) (.cells #[.int .i64 0] 3);have hA:=hA.more (B':=((w.alloc (.cells #[.bool s,.bool e,.slice A n c] 145)).alloc (.cells #[.int .i64 0] 3)).heap.size) (by simp;omega);have HA:=ah hA;clear hA
 gi_wp2_with (refine ⟨trivial,?_⟩;gi_at_call 130;refine ((callsIn_wide (n:=4)).2 (GL s e A n c vs ps _ HA.out hn)).mono ?_;rintro e1 w1 ⟨g,v,rfl,hg,hbg,hv,hbw⟩)
 have hr0:au ((w.alloc (.cells #[.bool s,.bool e,.slice A n c] 145)).alloc (.cells #[.int .i64 0] 3)) (w.heap.size+1) 3 #[.int .i64 0]:=by
  simpa using au.new (w.alloc (.cells #[.bool s,.bool e,.slice A n c] 145)) 3 #[.int .i64 0]
 have hr1:=hr0.below hbw hr0.lt;have hgn:g≠w.heap.size+1:=by simp at hg;omega
 have hvn:∀k,v.ownBlock=some k→k≠w.heap.size+1:=fun k hk=>by have:=(hv.lt k hk).1;simp at this;omega
 have hB1:Below w.heap.size w w1:=((Below.refl _ w).alloc (aN) _).alloc (by simp) _ |>.trans (hbw.mono (by simp;omega));have hsz:w.heap.size+1<w1.heap.size:=hr1.lt;refine wpIn_rangeFunc_ownG rfl (by omega) (gf:=170) (lb:= #[.pointer (some ⟨g,0,none⟩)]) rfl trivial (enters_of Tryz.func170 (by kernel_rfl) rfl)
  (Ae _ (by omega) g _ v ps hle (by rw[HL.out];exact hn) (MB (fun k _=>k=w.heap.size+1) w1.heap.size) w1 hbg hv (by rintro (e|⟨_,e⟩);exact hgn e;cases e) (fun k o hk=>by
   rintro (e|⟨e,_⟩)
   ·exact hvn k hk e
   ·have:=(hv.lt k hk).2;omega))
  Kept.trans (MB.b w1) (Below.refl _ _) (fun _=>rfl)
  (fun pre W=>au W (w.heap.size+1) 3 #[.int .i64 (tH pre)]∧Kept (MB (fun k _=>k=w.heap.size+1) w1.heap.size) w1 W) (fun _ _ _=>False)
  (OwnFrom.and (Own.from (Sy _ _ _) _) vw) (fun _ _ _ _ _ hs _ _=>hs)
  ⟨by simpa[tH] using hr1,Kept.refl _ _⟩
  (fun x=> {tmps:= #[.agg #[.bool s,.bool e,.slice A n c],.pointer (some ⟨w.heap.size,0,none⟩),.pointer (some ⟨w.heap.size+1,0,none⟩),undef,.int .i64 (x.1.2:Nat),.agg #[.bool s,.bool e,.slice A n c],.func (.func 170) #[] #[.pointer (some ⟨g,0,none⟩)],.int .i64 (x.1.1:Nat),.int .i64 (x.1.2:Nat),undef,undef,undef,undef],defers:= []}) ?assign ?body ?done ?stop
 case assign=>
  intro l x W K hK
  gi_wp2
  exact hK
 case body=>
  rintro lp pre x W ⟨hbx,Jw⟩ hlen;have hc:=hbx.cell 0;have hf:=hbx.frozen 0;simp at hc;have hx:=x.2;have hsl:=OO pre;have hsn:=Ag pre x;have RI:=ah hsn;clear hsn;generalize tH pre=S at*;have hlen':pre.length<1048576:=by have:=HL.out;omega
  obtain ⟨⟨xi,xl⟩,hxl⟩:=x;dsimp only at*
  gi_wp2
  refine ⟨(KeepsOthers.setCell _ _ _).from _,(Kept.refl _ W).setCell (p:=⟨w.heap.size+1,0,none⟩) (fun _ _=> .inl rfl) _,?_,Jw.setCell (p:=⟨w.heap.size+1,0,none⟩) (fun _ _=> .inl rfl) _⟩;rw[RI.out];simpa using hbx.av 0 (.int .i64 ((S:Int)+xl))
 case done=>
  rintro D ys W hD rfl ⟨hbx,Jw⟩ hK;have hc:=hbx.cell 0;have hf:=hbx.frozen 0;simp at hc;have hS:=JL ps hle ps.length (aN);rw[List.take_of_length_le (aN)] at hS;rw[hS] at hc hbx;clear hS;generalize hSS:aj ps=S at*;have RJ:=ah hSS;clear hSS;have hK2:=(KeepsOthers.setCell W ⟨w.heap.size+1,0,none⟩ (.int .i64 S)).same D _ hK rfl
  gi_wp2
  refine ⟨by simp,.inl ⟨_,_,rfl,run_takeDeferred hK2,?_⟩⟩;have afi:=(Jw.setCell (p:=⟨w.heap.size+1,0,none⟩) (fun _ _=> .inl rfl) (.int .i64 S)).taken (.deferred none) hD hK2 rfl;have afj:=(hbx.av 0 (.int .i64 S)).grown (grownBy_putObj' _ D (.deferred none)) (by simp;omega);have hc2:=afj.cell 0;simp at hc2;refine ⟨.int .i64 S,by simp[results,Tryz.results88,go_sem,hc2],nL (by rw[RJ.out]),hB1.trans (afi.drop.below (fun k o e=>by omega) (by omega))⟩
 case stop=>
  rintro D c pre W _ _ h _;exact h.elim
end Go.Proofs.YtbhiklnljiehiaaGreat
namespace Go.Proofs.YtbhiklnljiehiaaGreat
open Go.RowKit
def jD (n:Nat):Bool:=decide (n=0)
def mH (n:Nat):Bool:=decide (2047<n)
def Vb (q:List UInt8→Bool) (ps:List (List UInt8)) (w:World) (e:Ending) (w':World):Prop:=
 (∃k:Nat,e= .returned (.int .i64 k)∧(∃p∈ps,q p=true)∧w=w')∨(e= .returned (.int .i64 (-1))∧(∀p∈ps,q p=false)∧w=w')
theorem DU (A:Option Addr) (n c:Nat) (w:World):Calls Tryz.prog 211 #[.slice A n c] w fun e w'=>e= .returned (.bool (jD n))∧w=w':=by
 have hd:((n:Int)==0)=jD n:=by unfold jD;rw[Bool.eq_iff_iff];simp;try omega
 generalize jD n=r at*;go_enter Tryz.func211,Tryz.ntmps211;go_wp2;go_ret
 first|exact ⟨rfl,rfl⟩|exact ⟨bR hd,rfl⟩
set_option maxHeartbeats 400000 in
theorem Ah (A:Option Addr) (n c:Nat) (vs:List Value) (ps:List (List UInt8)) (w:World) (h:jd w w.heap.size A n c vs ps):
 Calls Tryz.prog 224 #[.slice A n c,.func (.func 211) #[] #[]] w (Vb (fun p=>jD p.length) ps w):=by
 have HL:=ah h.len;have hn63:n≤9223372036854775807:=by have:=h.sl.cap;have:=h.sl.mx;omega
 go_enter Tryz.func224,Tryz.ntmps224;go_wp2
 go_loop [8] (fun i=>∃k:Nat,k≤n∧i= .int .i64 k∧∀p∈ps.take k,jD p.length=false) (fun i=>n-(intOf i).toNat)
 case atStart=>exact ⟨0,Nat.zero_le _,rfl,by simp⟩
 case round=>
  obtain ⟨k,hk,rfl,hall⟩:=hrel;have HA:=ah hall;clear hall;by_cases hlt:k<n
  ·obtain ⟨ad,Ai,ci,rfl,hb,hc,hsl⟩:=h.get hlt;have hkl:k<ps.length:=by rw[HL.out];exact hlt
   have hin:ps[k]?.getD []∈ps:=by rw[List.getElem?_eq_getElem hkl];exact List.getElem_mem _
   have htk:ps.take (k+1)=ps.take k++ [ps[k]?.getD []]:=by rw[List.take_add_one,List.getElem?_eq_getElem hkl];rfl
   generalize ps[k]?.getD []=p at*;have HT:=ah htk;have HI:=ah hin;clear htk hin hkl;cases hq:jD p.length with
   |false=>
    have HQ:=ah hq;have iN:=DU Ai p.length ci w;rw[hq] at iN;have HF:=ah iN;clear iN hq;go_wp2_with (go_at_call 211;refine HF.out.mono ?_;rintro e w' ⟨rfl,rfl⟩)
    go_round
    case rel=>exact ⟨k+1,by omega,by go_num,by
     intro q hq;rw[HT.out,List.mem_append] at hq;rcases hq with hq|hq
     ·exact HA.out q hq
     ·rw[List.mem_singleton] at hq;rw[hq];exact HQ.out⟩
    case measure=>simp[intOf];omega
   |true=>
    have HQ:=ah hq;have iN:=DU Ai p.length ci w;rw[hq] at iN;have HF:=ah iN;clear iN hq;go_wp2_with (go_at_call 211;refine HF.out.mono ?_;rintro e w' ⟨rfl,rfl⟩);go_ret;exact .inl ⟨k,rfl,⟨p,HI.out,HQ.out⟩,rfl⟩
  ·have e:ps.take k=ps:=List.take_of_length_le (by rw[HL.out];omega);have hA:=HA.out;rw[e] at hA;have zy:=ah hA;clear hA e;go_wp2;go_ret;exact .inr ⟨rfl,zy.out,rfl⟩
theorem vG (A:Option Addr) (n c:Nat) (vs:List Value) (ps:List (List UInt8)) (w:World) (h:jd w w.heap.size A n c vs ps):
 Calls Tryz.prog 216 #[.slice A n c,.func (.func 211) #[] #[]] w fun e w'=>e= .returned (.bool (ps.any fun p=>jD p.length))∧w=w':=by
 go_enter Tryz.func216,Tryz.ntmps216;go_wp2_with fail;refine (Ah A n c vs ps w h).mono ?_;rintro e w' (⟨k,rfl,⟨p,hp,hq⟩,rfl⟩|⟨rfl,hall,rfl⟩)
 ·have hany:(ps.any fun p=>jD p.length)=true:=by rw[List.any_eq_true];exact ⟨p,hp,hq⟩
  have HA:=ah hany;clear hany;go_wp2;go_ret;exact ⟨bR (by rw[HA.out]),rfl⟩
 ·have hany:(ps.any fun p=>jD p.length)=false:=by rw[List.any_eq_false];intro p hp;have:=hall p hp;dsimp only at this;rw[this];simp
  have HA:=ah hany;clear hany hall;go_wp2;go_ret;exact ⟨bR (by rw[HA.out]),rfl⟩
theorem GN (A:Option Addr) (n c:Nat) (w:World):Calls Tryz.prog 212 #[.slice A n c] w fun e w'=>e= .returned (.bool (mH n))∧w=w':=by
 have hd:(decide (2047<(n:Int)))=mH n:=by unfold mH;rw[Bool.eq_iff_iff];simp;try omega
 generalize mH n=r at*;go_enter Tryz.func212,Tryz.ntmps212;go_wp2;go_ret
 first|exact ⟨rfl,rfl⟩|exact ⟨bR hd,rfl⟩
set_option maxHeartbeats 400000 in
theorem C6 (A:Option Addr) (n c:Nat) (vs:List Value) (ps:List (List UInt8)) (w:World) (h:jd w w.heap.size A n c vs ps):
 Calls Tryz.prog 224 #[.slice A n c,.func (.func 212) #[] #[]] w (Vb (fun p=>mH p.length) ps w):=by
 have HL:=ah h.len;have hn63:n≤9223372036854775807:=by have:=h.sl.cap;have:=h.sl.mx;omega
 go_enter Tryz.func224,Tryz.ntmps224;go_wp2
 go_loop [8] (fun i=>∃k:Nat,k≤n∧i= .int .i64 k∧∀p∈ps.take k,mH p.length=false) (fun i=>n-(intOf i).toNat)
 case atStart=>exact ⟨0,Nat.zero_le _,rfl,by simp⟩
 case round=>
  obtain ⟨k,hk,rfl,hall⟩:=hrel;have HA:=ah hall;clear hall;by_cases hlt:k<n
  ·obtain ⟨ad,Ai,ci,rfl,hb,hc,hsl⟩:=h.get hlt;have hkl:k<ps.length:=by rw[HL.out];exact hlt
   have hin:ps[k]?.getD []∈ps:=by rw[List.getElem?_eq_getElem hkl];exact List.getElem_mem _
   have htk:ps.take (k+1)=ps.take k++ [ps[k]?.getD []]:=by rw[List.take_add_one,List.getElem?_eq_getElem hkl];rfl
   generalize ps[k]?.getD []=p at*;have HT:=ah htk;have HI:=ah hin;clear htk hin hkl;cases hq:mH p.length with
   |false=>
    have HQ:=ah hq;have iN:=GN Ai p.length ci w;rw[hq] at iN;have HF:=ah iN;clear iN hq;go_wp2_with (go_at_call 212;refine HF.out.mono ?_;rintro e w' ⟨rfl,rfl⟩)
    go_round
    case rel=>exact ⟨k+1,by omega,by go_num,by
     intro q hq;rw[HT.out,List.mem_append] at hq;rcases hq with hq|hq
     ·exact HA.out q hq
     ·rw[List.mem_singleton] at hq;rw[hq];exact HQ.out⟩
    case measure=>simp[intOf];omega
   |true=>
    have HQ:=ah hq;have iN:=GN Ai p.length ci w;rw[hq] at iN;have HF:=ah iN;clear iN hq;go_wp2_with (go_at_call 212;refine HF.out.mono ?_;rintro e w' ⟨rfl,rfl⟩);go_ret;exact .inl ⟨k,rfl,⟨p,HI.out,HQ.out⟩,rfl⟩
  ·have e:ps.take k=ps:=List.take_of_length_le (by rw[HL.out];omega);have hA:=HA.out;rw[e] at hA;have zy:=ah hA;clear hA e;go_wp2;go_ret;exact .inr ⟨rfl,zy.out,rfl⟩
theorem xw (A:Option Addr) (n c:Nat) (vs:List Value) (ps:List (List UInt8)) (w:World) (h:jd w w.heap.size A n c vs ps):
 Calls Tryz.prog 216 #[.slice A n c,.func (.func 212) #[] #[]] w fun e w'=>e= .returned (.bool (ps.any fun p=>mH p.length))∧w=w':=by
 go_enter Tryz.func216,Tryz.ntmps216;go_wp2_with fail;refine (C6 A n c vs ps w h).mono ?_;rintro e w' (⟨k,rfl,⟨p,hp,hq⟩,rfl⟩|⟨rfl,hall,rfl⟩)
 ·have hany:(ps.any fun p=>mH p.length)=true:=by rw[List.any_eq_true];exact ⟨p,hp,hq⟩
  have HA:=ah hany;clear hany;go_wp2;go_ret;exact ⟨bR (by rw[HA.out]),rfl⟩
 ·have hany:(ps.any fun p=>mH p.length)=false:=by rw[List.any_eq_false];intro p hp;have:=hall p hp;dsimp only at this;rw[this];simp
  have HA:=ah hany;clear hany hall;go_wp2;go_ret;exact ⟨bR (by rw[HA.out]),rfl⟩
end Go.Proofs.YtbhiklnljiehiaaGreat
namespace Go.Proofs.YtbhiklnljiehiaaGreat
open Go.RowKit
theorem jd.drew' {w:World} {B n c:Nat} {A:Option Addr} {vs:List Value} {ps:List (List UInt8)} (h:jd w B A n c vs ps):jd w.drew B A n c vs ps:=⟨h.sl.drew,h.len,fun i p hi=>let ⟨Ai,ci,e,hs⟩:=h.each i p hi;⟨Ai,ci,e,hs.drew⟩⟩
theorem jd.iU {w:World} {n c:Nat} {A:Option Addr} {vs:List Value} {ps:List (List UInt8)} (h:jd w w.heap.size A n c vs ps) (k:Nat):jd (w.drewN k) (w.drewN k).heap.size A n c vs ps:=⟨h.sl.drewN k,h.len,fun i p hi=>let ⟨Ai,ci,e,hs⟩:=h.each i p hi;⟨Ai,ci,e,hs.drewN k⟩⟩
theorem jd.pre {w:World} {B n c k:Nat} {A:Option Addr} {vs:List Value} {ps:List (List UInt8)} (h:jd w B A n c vs ps) (hk:k≤n):jd w B A k k (vs.take k) (ps.take k):=by
 refine ⟨⟨by rw[List.length_take,h.sl.len];omega,aN,by have:=h.sl.cap;have:=h.sl.mx;omega,fun hp=> ?_⟩,by rw[List.length_take,h.len];omega,fun i p hi=> ?_⟩
 ·obtain ⟨ad,e,hb,hc⟩:=h.sl.at_ (by omega);refine ⟨ad,e,hb,fun j u hu=>hc j u ?_⟩;rw[List.getElem?_take] at hu;split at hu
  ·exact hu
  ·cases hu
 ·rw[List.getElem?_take] at hi;split at hi
  ·obtain ⟨Ai,ci,e,hs⟩:=h.each i p hi;exact ⟨Ai,ci,by rw[List.getElem?_take,if_pos (by assumption)];exact e,hs⟩
  ·cases hi
def DV (bs:List Bool) (Inv:World→Prop) (e:Ending) (w':World):Prop:=
 ((∃k:Nat,e= .returned (.int .i64 k)∧bs.all id=false)∨(e= .returned (.int .i64 (-1))∧bs.all id=true))∧Inv w'
set_option maxHeartbeats 400000 in
theorem EW (b:Nat) (kE:List Value) (bs:List Bool) (Inv:World→Prop) (w:World) (hlen:bs.length=kE.length) (hsm:kE.length≤1000) (hI:∀W,Inv W→au W b 26 kE.toArray)
 (hcall:∀(i:Nat) (fv:Value) (x:Bool) (W:World),kE[i]? =some fv→bs[i]? =some x→(∀y∈bs.take i,y=true)→Inv W→Calls Tryz.prog 223 #[fv] W fun e W'=>e= .returned (.bool (!x))∧Inv W')
 (h0:Inv w):Calls Tryz.prog 221 #[.slice (some ⟨b,0,none⟩) kE.length kE.length,.func (.func 223) #[] #[]] w (DV bs Inv):=by
 have HC:=ah hcall;have HI:=ah hI;have HL:=ah hlen;clear hcall hI hlen;obtain ⟨N,hN⟩:∃N,N=kE.length:=⟨_,rfl⟩
 rw[←hN] at hsm ⊢;have HN:=ah hN;clear hN;go_enter Tryz.func221,Tryz.ntmps221;go_wp2
 go_loopw [8] (fun i wr=>∃k:Nat,k≤N∧i= .int .i64 k∧(∀y∈bs.take k,y=true)∧Inv wr) (fun i _=>N-(intOf i).toNat)
 case atStart=>exact ⟨0,Nat.zero_le _,rfl,by simp,h0⟩
 case round=>
  clear h0;obtain ⟨k,hk,rfl,hall,hinv⟩:=hrel;have HA:=ah hall;clear hall;by_cases hlt:k<N
  ·obtain ⟨fv,iN⟩:∃fv,kE[k]? =some fv:=⟨_,List.getElem?_eq_getElem (by rw[←HN.out];exact hlt)⟩
   obtain ⟨x,hx⟩:∃x,bs[k]? =some x:=⟨_,List.getElem?_eq_getElem (by rw[HL.out,←HN.out];exact hlt)⟩
   have hcl:=HC.out k fv x wr iN hx HA.out hinv;have hcell:=(HI.out wr hinv).cell k;rw[List.getElem?_toArray,iN] at hcell;have ug:=ah hcl;have HX:=ah hx;clear hcl iN hx;cases x with
   |true=>
    go_wp2_with (go_at_call 223;refine ug.out.mono ?_;rintro e w' ⟨rfl,hi'⟩)
    go_roundw
    case rel=>exact ⟨k+1,by omega,by go_num,by
     intro y hy;rw[List.take_add_one,HX.out,List.mem_append] at hy;rcases hy with hy|hy
     ·exact HA.out y hy
     ·simpa using hy,hi'⟩
    case measure=>simp[intOf];omega
   |false=>
    go_wp2_with (go_at_call 223;refine ug.out.mono ?_;rintro e w' ⟨rfl,hi'⟩);go_ret;refine ⟨.inl ⟨k,rfl,?_⟩,hi'⟩;rw[List.all_eq_false];exact ⟨false,List.mem_of_getElem? HX.out,by simp⟩
  ·have e:bs.take k=bs:=List.take_of_length_le (by rw[HL.out,←HN.out];omega);have hA:=HA.out;rw[e] at hA;have zy:=ah hA;clear hA e;go_wp2;go_ret;exact ⟨.inr ⟨rfl,by rw[List.all_eq_true];exact zy.out⟩,hinv⟩
theorem ze (b:Nat) (kE:List Value) (bs:List Bool) (Inv:World→Prop) (w:World)
 (h:Calls Tryz.prog 221 #[.slice (some ⟨b,0,none⟩) kE.length kE.length,.func (.func 223) #[] #[]] w (DV bs Inv)):
 Calls Tryz.prog 206 #[.slice (some ⟨b,0,none⟩) kE.length kE.length,.func (.func 223) #[] #[]] w fun e w'=>e= .returned (.bool (!bs.all id))∧Inv w':=by
 have H:=ah h;clear h;go_enter Tryz.func206,Tryz.ntmps206;go_wp2_with fail;refine H.out.mono ?_;rintro e w' ⟨⟨k,rfl,ha⟩|⟨rfl,ha⟩,hi⟩
 ·have HA:=ah ha;clear ha;go_wp2;go_ret;exact ⟨bR (by rw[HA.out];rfl),hi⟩
 ·have HA:=ah ha;clear ha;go_wp2;go_ret;exact ⟨bR (by rw[HA.out];rfl),hi⟩
theorem Sz (b:Nat) (kE:List Value) (bs:List Bool) (Inv:World→Prop) (w:World)
 (h:Calls Tryz.prog 206 #[.slice (some ⟨b,0,none⟩) kE.length kE.length,.func (.func 223) #[] #[]] w fun e w'=>e= .returned (.bool (!bs.all id))∧Inv w'):
 Calls Tryz.prog 213 #[.slice (some ⟨b,0,none⟩) kE.length kE.length] w fun e w'=>e= .returned (.bool (bs.all id))∧Inv w':=by
 have H:=ah h;clear h;go_enter Tryz.func213,Tryz.ntmps213;go_wp2_with fail;refine H.out.mono ?_;rintro e w' ⟨rfl,hi⟩;go_wp2;go_ret;exact ⟨bR (by simp),hi⟩
end Go.Proofs.YtbhiklnljiehiaaGreat
namespace Go.Proofs.YtbhiklnljiehiaaGreat
open Go.RowKit
def mI (ps:List (List UInt8)):List Bool:=
 [decide (1≤ps.length∧ps.length≤64),!(ps.any fun p=>jD p.length),!((ps.take (ps.length-1)).any fun p=>mH p.length),decide (aj ps≤32767)]
def oh (ps:List (List UInt8)):Bool:=(mI ps).all id
theorem Ws (bn n:Nat) (w:World) (h:au w bn 3 #[.int .i64 n]):
 Calls Tryz.prog 214 #[.pointer (some ⟨bn,0,none⟩)] w fun e w'=>e= .returned (.bool (decide (1≤n∧n≤64)))∧w=w':=by
 have hc:=h.cell 0;simp at hc;by_cases h1:1≤n
 ·by_cases h2:n≤64
  ·have hd:decide (1≤n∧n≤64)=true:=by simp;omega
   rw[hd];clear hd;go_enter Tryz.func214,Tryz.ntmps214;go_wp2;go_ret;exact ⟨bR (by simp;omega),rfl⟩
  ·have hd:decide (1≤n∧n≤64)=false:=by simp;omega
   rw[hd];clear hd;go_enter Tryz.func214,Tryz.ntmps214;go_wp2;go_ret;exact ⟨bR (by simp;omega),rfl⟩
 ·have hd:decide (1≤n∧n≤64)=false:=by simp;omega
  rw[hd];clear hd;go_enter Tryz.func214,Tryz.ntmps214;go_wp2;go_ret;exact ⟨rfl,rfl⟩
theorem Wt (bc be:Nat) (s e:Bool) (A:Option Addr) (n c:Nat) (vs:List Value) (ps:List (List UInt8)) (w:World) (h:jd w w.heap.size A n c vs ps)
 (hc:au w bc 145 #[.bool s,.bool e,.slice A n c]) (he:au w be 288 #[.func (.func 211) #[] #[]]):
 Calls Tryz.prog 215 #[.pointer (some ⟨bc,0,none⟩),.pointer (some ⟨be,0,none⟩)] w fun e w'=>e= .returned (.bool (!(ps.any fun p=>jD p.length)))∧w=w':=by
 have hc2:=hc.cell 2;have he0:=he.cell 0;simp at hc2 he0;have hct:=vG A n c vs ps w h;have HC:=ah hct;clear hct;generalize (ps.any fun p=>jD p.length)=r at*;go_enter Tryz.func215,Tryz.ntmps215;go_wp2_with (go_at_call 216;refine HC.out.mono ?_;rintro e w' ⟨rfl,rfl⟩);go_ret;exact ⟨rfl,rfl⟩
set_option maxHeartbeats 400000 in
theorem Wu (bc bn bl:Nat) (s e:Bool) (A:Option Addr) (n c:Nat) (vs:List Value) (ps:List (List UInt8)) (w:World) (h:jd w w.heap.size A n c vs ps)
 (hc:au w bc 145 #[.bool s,.bool e,.slice A n c]) (hn:au w bn 3 #[.int .i64 n]) (hl:au w bl 288 #[.func (.func 212) #[] #[]]) (h1:1≤n):
 Calls Tryz.prog 217 #[.pointer (some ⟨bc,0,none⟩),.pointer (some ⟨bn,0,none⟩),.pointer (some ⟨bl,0,none⟩)] w fun e w'=>e= .returned (.bool (!((ps.take (n-1)).any fun p=>mH p.length)))∧Below w.heap.size w w':=by
 have hc2:=hc.cell 2;have hn0:=hn.cell 0;have hl0:=hl.cell 0;simp at hc2 hn0 hl0;have hcap:=h.sl.cap;have hmx:=h.sl.mx;obtain ⟨m,rfl⟩:∃m,n=m+1:=⟨n-1,by omega⟩
 have hct:=fun W (hW:jd W W.heap.size A (m+1) c vs ps)=>xw A m m _ _ W (hW.pre (k:=m) (by omega))
 have e1:m+1-1=m:=by omega
 rw[e1];generalize ((ps.take m).any fun p=>mH p.length)=r at*;have HC:=ah hct;clear hct e1;have e2:((m:Int)+1-1)=m:=by omega
 have e3:IntKind.i64.wrap ((m:Int)+1-1)=m:=by rw[e2];exact IntWalk.i64_in _ (by omega)
 go_enter Tryz.func217,Tryz.ntmps217;go_wp2
 go_quiet ((go_at_call 216;exact Calls.quiet_of_same ((HC.out _ (h.iU _)).mono fun _ _ hh=>⟨hh.1,hh.2.symm⟩)))
 go_wp2;go_ret;exact ⟨rfl,(Below.refl _ w).drewN _⟩
theorem Wv (bc:Nat) (s e:Bool) (A:Option Addr) (n c:Nat) (vs:List Value) (ps:List (List UInt8)) (w:World) (h:jd w w.heap.size A n c vs ps) (hn:n≤1048576) (hle:∀p∈ps,p.length≤1099511627776)
 (hc:au w bc 145 #[.bool s,.bool e,.slice A n c]):
 Calls Tryz.prog 218 #[.pointer (some ⟨bc,0,none⟩)] w fun e w'=>e= .returned (.bool (decide (aj ps≤32767)))∧Below w.heap.size w w':=by
 have hc0:=hc.cell 0;have hc1:=hc.cell 1;have hc2:=hc.cell 2;simp at hc0 hc1 hc2;have hsz:=ru s e A n c vs ps w h hn hle;have HZ:=ah hsz;clear hsz hle;generalize aj ps=S at*;have hd:decide ((S:Int)≤32767)=decide (S≤32767):=by simp;omega
 generalize hr:decide (S≤32767)=r at*;clear hr;go_enter Tryz.func218,Tryz.ntmps218;go_wp2_with (go_at_call 88;refine HZ.out.mono ?_;rintro e w' ⟨rfl,hb⟩);go_ret
 first|exact ⟨rfl,hb⟩|exact ⟨bR hd,hb⟩
theorem Ww (bn:Nat) (x:Bool) (w:World) (h:Calls Tryz.prog 214 #[.pointer (some ⟨bn,0,none⟩)] w fun e w'=>e= .returned (.bool x)∧Below w.heap.size w w'):
 Calls Tryz.prog 223 #[.func (.func 214) #[] #[.pointer (some ⟨bn,0,none⟩)]] w fun e w'=>e= .returned (.bool (!x))∧Below w.heap.size w w':=by
 have H:=ah h;clear h;go_enter Tryz.func223,Tryz.ntmps223;go_wp2_with (go_at_call 214;refine H.out.mono ?_;rintro e w' ⟨rfl,hb⟩);go_ret;exact ⟨rfl,hb⟩
theorem Wx (bc be:Nat) (x:Bool) (w:World) (h:Calls Tryz.prog 215 #[.pointer (some ⟨bc,0,none⟩),.pointer (some ⟨be,0,none⟩)] w fun e w'=>e= .returned (.bool x)∧Below w.heap.size w w'):
 Calls Tryz.prog 223 #[.func (.func 215) #[] #[.pointer (some ⟨bc,0,none⟩),.pointer (some ⟨be,0,none⟩)]] w fun e w'=>e= .returned (.bool (!x))∧Below w.heap.size w w':=by
 have H:=ah h;clear h;go_enter Tryz.func223,Tryz.ntmps223;go_wp2_with (go_at_call 215;refine H.out.mono ?_;rintro e w' ⟨rfl,hb⟩);go_ret;exact ⟨rfl,hb⟩
theorem Wy (bc bn bl:Nat) (x:Bool) (w:World) (h:Calls Tryz.prog 217 #[.pointer (some ⟨bc,0,none⟩),.pointer (some ⟨bn,0,none⟩),.pointer (some ⟨bl,0,none⟩)] w fun e w'=>e= .returned (.bool x)∧Below w.heap.size w w'):
 Calls Tryz.prog 223 #[.func (.func 217) #[] #[.pointer (some ⟨bc,0,none⟩),.pointer (some ⟨bn,0,none⟩),.pointer (some ⟨bl,0,none⟩)]] w fun e w'=>e= .returned (.bool (!x))∧Below w.heap.size w w':=by
 have H:=ah h;clear h;go_enter Tryz.func223,Tryz.ntmps223;go_wp2_with (go_at_call 217;refine H.out.mono ?_;rintro e w' ⟨rfl,hb⟩);go_ret;exact ⟨rfl,hb⟩
theorem Wz (bc:Nat) (x:Bool) (w:World) (h:Calls Tryz.prog 218 #[.pointer (some ⟨bc,0,none⟩)] w fun e w'=>e= .returned (.bool x)∧Below w.heap.size w w'):
 Calls Tryz.prog 223 #[.func (.func 218) #[] #[.pointer (some ⟨bc,0,none⟩)]] w fun e w'=>e= .returned (.bool (!x))∧Below w.heap.size w w':=by
 have H:=ah h;clear h;go_enter Tryz.func223,Tryz.ntmps223;go_wp2_with (go_at_call 218;refine H.out.mono ?_;rintro e w' ⟨rfl,hb⟩);go_ret;exact ⟨rfl,hb⟩
theorem Mv (bc bn be bl b:Nat) (s e:Bool) (A:Option Addr) (n c:Nat) (vs:List Value) (ps:List (List UInt8)) (w:World) (h:jd w w.heap.size A n c vs ps) (hn:n≤1048576) (hle:∀p∈ps,p.length≤1099511627776)
 (hbc:au w bc 145 #[.bool s,.bool e,.slice A n c]) (hbn:au w bn 3 #[.int .i64 n]) (hbe:au w be 288 #[.func (.func 211) #[] #[]]) (hbl:au w bl 288 #[.func (.func 212) #[] #[]])
 (hb:au w b 26 #[.func (.func 214) #[] #[.pointer (some ⟨bn,0,none⟩)],.func (.func 215) #[] #[.pointer (some ⟨bc,0,none⟩),.pointer (some ⟨be,0,none⟩)],
  .func (.func 217) #[] #[.pointer (some ⟨bc,0,none⟩),.pointer (some ⟨bn,0,none⟩),.pointer (some ⟨bl,0,none⟩)],.func (.func 218) #[] #[.pointer (some ⟨bc,0,none⟩)]]):
 Calls Tryz.prog 213 #[.slice (some ⟨b,0,none⟩) 4 4] w fun e w'=>e= .returned (.bool (oh ps))∧Below w.heap.size w w':=by
 refine Sz b [.func (.func 214) #[] #[.pointer (some ⟨bn,0,none⟩)],.func (.func 215) #[] #[.pointer (some ⟨bc,0,none⟩),.pointer (some ⟨be,0,none⟩)],
  .func (.func 217) #[] #[.pointer (some ⟨bc,0,none⟩),.pointer (some ⟨bn,0,none⟩),.pointer (some ⟨bl,0,none⟩)],.func (.func 218) #[] #[.pointer (some ⟨bc,0,none⟩)]] (mI ps) (fun W=>Below w.heap.size w W) w ?_
 refine ze b _ (mI ps) (fun W=>Below w.heap.size w W) w ?_;refine EW b _ (mI ps) (fun W=>Below w.heap.size w W) w rfl (by simp) (fun W hW=>hb.below hW hb.lt) ?_ (Below.refl _ _);have hl:=h.len;intro i fv x W iN hx hpre hW;have hS:=(h.below hW).more hW.size;have key:Calls Tryz.prog 223 #[fv] W fun e W'=>e= .returned (.bool (!x))∧Below W.heap.size W W':=by
  match i,iN,hx,hpre with
  |0,iN,hx,_=>
   simp only[mI,List.getElem?_cons_zero,Option.some.injEq] at iN hx;subst iN hx;refine Ww bn _ W ((Ws bn n W (hbn.below hW hbn.lt)).mono fun e W' hh=>⟨?_,by rw[←hh.2];exact Below.refl _ _⟩);rw[hh.1,hl]
  |1,iN,hx,_=>
   simp only[mI,List.getElem?_cons_zero,List.getElem?_cons_succ,Option.some.injEq] at iN hx;subst iN hx;exact Wx bc be _ W ((Wt bc be s e A n c vs ps W hS (hbc.below hW hbc.lt) (hbe.below hW hbe.lt)).mono fun e W' hh=>⟨hh.1,by rw[←hh.2];exact Below.refl _ _⟩)
  |2,iN,hx,hpre=>
   have h1:1≤n:=by
    have:=hpre (decide (1≤ps.length∧ps.length≤64)) (by simp[mI]);simp at this;omega
   simp only[mI,List.getElem?_cons_zero,List.getElem?_cons_succ,Option.some.injEq] at iN hx;subst iN hx;rw[hl];exact Wy bc bn bl _ W (Wu bc bn bl s e A n c vs ps W hS (hbc.below hW hbc.lt) (hbn.below hW hbn.lt) (hbl.below hW hbl.lt) h1)
  |3,iN,hx,_=>
   simp only[mI,List.getElem?_cons_zero,List.getElem?_cons_succ,Option.some.injEq] at iN hx;subst iN hx;exact Wz bc _ W (Wv bc s e A n c vs ps W hS hn hle (hbc.below hW hbc.lt))
  |i+4,iN,_,_=>simp at iN
 exact key.mono fun e W' hh=>⟨hh.1,hW.trans (hh.2.mono hW.size)⟩
set_option maxHeartbeats 800000 in
theorem Mx (s e:Bool) (A:Option Addr) (n c:Nat) (vs:List Value) (ps:List (List UInt8)) (w:World) (h:jd w w.heap.size A n c vs ps) (hn:n≤1048576) (hle:∀p∈ps,p.length≤1099511627776):
 Calls Tryz.prog 195 #[.agg #[.bool s,.bool e,.slice A n c]] w fun e w'=>e= .returned (.bool (oh ps))∧Below w.heap.size w w':=by
 have WB:=ah hle;clear hle;have hK:=((((Kept.refl (fun k _=>w.heap.size≤k) w).alloc (.cells #[.bool s,.bool e,.slice A n c] 145)).alloc (.cells #[.int .i64 n] 3)).alloc (.cells #[.func (.func 211) #[] #[]] 288)).alloc (.cells #[.func (.func 212) #[] #[]] 288);have hB:=(hK.alloc (.cells #[.func (.func 214) #[] #[.pointer (some ⟨w.heap.size+1,0,none⟩)],.func (.func 215) #[] #[.pointer (some ⟨w.heap.size,0,none⟩),.pointer (some ⟨w.heap.size+1+1,0,none⟩)],
  .func (.func 217) #[] #[.pointer (some ⟨w.heap.size,0,none⟩),.pointer (some ⟨w.heap.size+1,0,none⟩),.pointer (some ⟨w.heap.size+1+1+1,0,none⟩)],.func (.func 218) #[] #[.pointer (some ⟨w.heap.size,0,none⟩)]] 26)).below (B:=w.heap.size) (fun _ _ h=>h) (aN)
 clear hK;have b0:=au.new w 145 #[.bool s,.bool e,.slice A n c];have b1:=au.new (w.alloc (.cells #[.bool s,.bool e,.slice A n c] 145)) 3 #[.int .i64 n];have b2:=au.new ((w.alloc (.cells #[.bool s,.bool e,.slice A n c] 145)).alloc (.cells #[.int .i64 n] 3)) 288 #[.func (.func 211) #[] #[]];have b3:=au.new (((w.alloc (.cells #[.bool s,.bool e,.slice A n c] 145)).alloc (.cells #[.int .i64 n] 3)).alloc (.cells #[.func (.func 211) #[] #[]] 288)) 288 #[.func (.func 212) #[] #[]];have b4:=au.new ((((w.alloc (.cells #[.bool s,.bool e,.slice A n c] 145)).alloc (.cells #[.int .i64 n] 3)).alloc (.cells #[.func (.func 211) #[] #[]] 288)).alloc (.cells #[.func (.func 212) #[] #[]] 288)) 26 #[.func (.func 214) #[] #[.pointer (some ⟨w.heap.size+1,0,none⟩)],.func (.func 215) #[] #[.pointer (some ⟨w.heap.size,0,none⟩),.pointer (some ⟨w.heap.size+1+1,0,none⟩)],
  .func (.func 217) #[] #[.pointer (some ⟨w.heap.size,0,none⟩),.pointer (some ⟨w.heap.size+1,0,none⟩),.pointer (some ⟨w.heap.size+1+1+1,0,none⟩)],.func (.func 218) #[] #[.pointer (some ⟨w.heap.size,0,none⟩)]]
 simp only[World.size_alloc] at b1 b2 b3 b4;have hall:=Mv w.heap.size (w.heap.size+1) (w.heap.size+1+1) (w.heap.size+1+1+1) (w.heap.size+1+1+1+1) s e A n c vs ps _ ((h.below hB).more hB.size) hn WB.out ((((b0.alloc _).alloc _).alloc _).alloc _) (((b1.alloc _).alloc _).alloc _) ((b2.alloc _).alloc _) (b3.alloc _) b4;have nD:=ah hall;have HB:=ah hB;clear hall b0 b1 b2 b3 b4 hB;generalize oh ps=r at*;go_enter Tryz.func195,Tryz.ntmps195;go_wp2_with (go_at_call 213;refine nD.out.mono ?_;rintro e w' ⟨rfl,hb⟩);go_ret;exact ⟨rfl,HB.out.trans (hb.mono HB.out.size)⟩
end Go.Proofs.YtbhiklnljiehiaaGreat
namespace Go.Proofs.YtbhiklnljiehiaaGreat
open Go.RowKit
def jZ (ps:List (List UInt8)) (i:Nat):List (Nat × Nat):= [((decide (i+2<ps.length)).toNat,1),((ps[i]?.getD []).length,11)]
def dV (ps:List (List UInt8)) (k:Nat):List Bool:=(List.range k).flatMap fun i=>aH (jZ ps i)
theorem EX (ps:List (List UInt8)) (k:Nat):dV ps (k+1)=dV ps k++aH (jZ ps k):=by simp[dV,List.range_succ]
theorem mJ (ps:List (List UInt8)) (k:Nat):(dV ps k).length=12*k:=by
 unfold dV;rw[List.length_flatMap];have:∀i,(aH (jZ ps i)).length=12:=fun i=>by simp[aH,jZ]
 simp only[this,List.map_const',List.length_range,List.sum_replicate_nat];omega
theorem iI {ps:List (List UInt8)} {p:List UInt8} (h:p∈ps):p.length≤aj ps:=by
 induction ps with
 |nil=>cases h
 |cons q ps ih=>
  unfold aj at ih ⊢;rw[List.map_cons,List.sum_cons];rcases List.mem_cons.1 h with rfl|h
  ·omega
  ·have:=ih h;omega
structure ol (ps:List (List UInt8)):Prop where
 lo:1≤ps.length
 hi:ps.length≤64
 pos:∀p∈ps,1≤p.length
 short:∀i,i+1<ps.length→(ps[i]?.getD []).length≤2047
 sum:aj ps≤32767
theorem kT (ps:List (List UInt8)):oh ps=true↔ol ps:=by
 unfold oh mI;simp only[List.all_cons,List.all_nil,Bool.and_true,id,Bool.and_eq_true,Bool.not_eq_true',decide_eq_true_eq,List.any_eq_false,Bool.not_eq_true];constructor
 ·rintro ⟨⟨h1,h2⟩,h3,h4,h5⟩;refine ⟨h1,h2,fun p hp=> ?_,fun i hi=> ?_,h5⟩
  ·have:=h3 p hp;simp[jD] at this;cases p with
   |nil=>exact absurd rfl this
   |cons=>simp
  ·have:=h4 (ps[i]?.getD []) (by
    rw[List.getElem?_eq_getElem (by omega)];show ps[i]∈_
    rw[List.mem_take_iff_getElem];exact ⟨i,by omega,rfl⟩)
   simp[mH] at this;omega
 ·rintro ⟨h1,h2,h3,h4,h5⟩;refine ⟨⟨h1,h2⟩,fun p hp=> ?_,fun p hp=> ?_,h5⟩
  ·have:=h3 p hp;simp[jD];rintro rfl;simp at this
  ·rw[List.mem_take_iff_getElem] at hp;obtain ⟨i,hi,rfl⟩:=hp;have:=h4 i (by omega);rw[List.getElem?_eq_getElem (by omega)] at this;simp[mH];simpa using this
def rz (B:Nat) (t:TypeId) (w:World) (n:Nat) (xs:List Value) (er:Int) (e:Ending) (w':World):Prop:=
 ∃v,e= .returned (.tuple #[v,.int .i64 er])∧w'.ownsRow B t 1 v n xs∧Below B w w'
end Go.Proofs.YtbhiklnljiehiaaGreat
