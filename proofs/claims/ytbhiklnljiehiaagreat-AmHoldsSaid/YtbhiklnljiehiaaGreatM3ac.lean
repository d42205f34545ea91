/- umpdu: Header, Lengths, Size. umpdu.Vali. -/
import Derived.Test.YtbhiklnljiehiaaGreatM3ab
import Derived.Laws.EntriesVeiled
import Derived.StillTailTactics
import Derived.Deep.RegionHeld3
set_option maxHeartbeats 2000000
set_option maxRecDepth 100000
namespace Go.Proofs.YtbhiklnljiehiaaGreat
open RowKit Shelf Tryz
attribute [local go_sem] Oper.semAt_some
theorem EF:(prog.info? 3).map (fun i=>(i.zero,i.size,i.bytes))=some (some (.int .i64 0),1,8):=by kernel_rfl
theorem Oy:prog.underlying 75=some (.slice 3):=by kernel_rfl
theorem qY {k:IntKind} {a b:Int} (h:a=b):Ending.returned (.int k a)= .returned (.int k b):=by rw[h]
theorem dm {a b:Bool} (h:a=b):Ending.returned (.bool a)= .returned (.bool b):=by rw[h]
def iV (n:Int):Int:=if n<1\/64<n then 0 else 2+(12*(n-1)+7)/8
theorem Oz (n:Int) (w:World) (h: -9223372036854775808<=n/\n<=9223372036854775807):
 Calls prog 168 #[n] w fun e w'=>e= .returned (.int .i64 (iV n))/\w=w':=by
 have hfin:iV n=if n<1\/64<n then 0 else 2+(12*(n-1)+7)/8:=rfl
 have HF:=ah hfin;clear hfin;generalize iV n=r at*;by_cases h1:n<1
 ·go_enter func168,ntmps168;go_wp2;go_ret;exact ⟨qY (by rw[HF.out,bD (by omega)]),rfl⟩
 ·by_cases h2:64<n
  ·go_enter func168,ntmps168;go_wp2;go_ret;exact ⟨qY (by rw[HF.out,bD (by omega)]),rfl⟩
  ·go_enter func168,ntmps168;go_wp2;go_ret;exact ⟨qY (by rw[HF.out,aP (by omega)]),rfl⟩
def lens (ps:List (List UInt8)):List Value:=ps.map fun p=> .int .i64 (p.length:Nat)
theorem Ru (ps:List (List UInt8)) (k:Nat) (h:k<ps.length):lens (ps.take (k+1))=lens (ps.take k)++ [.int .i64 ((ps[k]?.getD []).length:Nat)]:=by
 unfold lens;rw[pX,gX h,Er];rfl
def Rv (w:World) (ps:List (List UInt8)) (e:Ending) (w':World):Prop:=
 ∃g v,e= .returned (.func (.func 170) #[] #[.pointer (some ⟨g,0,none⟩)])/\w.heap.size<=g/\av w' g 75 #[v]/\w'.ownsRow w 3 1 v ps.length (lens ps)/\Below w w w'
theorem L6 (s e:Bool) (A:Option Addr) (n c:Nat) (vs:List Value) (ps:List (List UInt8)) (w:World) (h:jW w w A n c vs ps) (hn:n<=1048576):
 Calls prog 130 #[.agg #[.bool s,.bool e,.slice A n c]] w (Rv w ps):=by
 obtain ⟨i0,hi,hz0,hz1,hz2⟩:=vz EF;have HL:=ah h.len;have hA:=h.alloc (aL) (.cells #[.bool s,.bool e,.slice A n c] 145);go_enter func130,ntmps130;go_wp2
 go_loopw [9] (fun i wr=>∃(k:Nat) (v:Value),k<=n/\i= .int .i64 k/\av wr w 145 #[.bool s,.bool e,.slice A n c]/\av wr (w+1) 75 #[v]/\wr.ownsRow w 3 1 v k (lens (ps.take k))/\Below w w wr) (fun i _=>n-(intOf i).toNat)
 case atStart=>exact ⟨0,_,eH _,rfl,(av.new w _ _).alloc _,by simpa using av.new (w.alloc (.cells #[.bool s,.bool e,.slice A n c] 145)) 75 #[.slice none 0 0],jl _ _ _ _,((bS _ w).alloc (aL) _).alloc (by simp) _⟩
 case round=>
  obtain ⟨k,v,hk,rfl,hb0,hb1,hown,hbw⟩:=hrel;by_cases hlt:k<n
  ·obtain ⟨ad,Ai,ci,rfl,hb,hc,hsl⟩:=(h.below hbw).get hlt;have hs1:=Ru ps k (by rw[HL.out];exact hlt);have hl:(ps[k]?.getD []).length<=9223372036854775807:=by have:=hsl.cap;have:=hsl.mx;omega
   generalize ps[k]?.getD []=p at*;generalize lens (List.take k ps)=L at*;have IQ:=ah hs1;clear hs1;have c1:=hb1.cell 0;have f1:=hb1.frozen 0;simp at c1;go_wp2_with (at_builtin;refine IA _ rfl _ _ 75 rfl w 3 i0 (.int .i64 0) 1 8 Oy hi hz0 hz1 hz2 rfl (by decide) _ _ _ rfl (hown.alloc _) ⟨wr,0,none⟩ 1 1 [.int .i64 (p.length:Nat)] rfl rfl ?c1 ?c2 ?c3 ?c4 ?c5 ?_)
   case c1=>exact cell_one_new _ _ _
   case c2=>simp[Value.oneCell']
   case c3=>unfold maxLen;omega
   case c4=>omega
   case c5=>have:=hbw.size;simp;omega
   intro v' w2 hown' hgrow _;have hne:v.ownBlock≠some (w.heap.size+1):=aK hown hb1 (by decide);have hne0:v.ownBlock≠some w.heap.size:=aK hown hb0 (by decide);have hb1':=(hb1.alloc (.cells #[.int .i64 (p.length:Nat)] 3)).grown hgrow (fun e=>hne e.symm);have aj1:=(hb0.alloc (.cells #[.int .i64 (p.length:Nat)] 3)).grown hgrow (fun e=>hne0 e.symm);have aj2:=(hbw.alloc hbw.size (.cells #[.int .i64 (p.length:Nat)] 3)).grown hgrow (by have:=hbw.size;simp;omega) (fun j hj=>(hown.lt j hj).1);have c1':=hb1'.cell 0;have f1':=hb1'.frozen 0;simp at c1';obtain ⟨g',cap',rfl,hgl,oL⟩:=hown'.form (by omega);go_wp2
   go_roundw
   case rel=>
    refine ⟨k+1,_,by omega,by go_num,aj1.far (by simp) _,by simpa using hb1'.ay 0 (.slice (some ⟨g',0,none⟩) (k+1) cap'),?_,aj2.setCell (p:=⟨w+1,0,none⟩) (by simp) _⟩;rw[IQ.out];exact hown'.kept (aR _ _ 0 _) (.inr (aK hown' hb1' (by decide)))
   case measure=>simp[intOf];omega
  ·have e:ps.take k=ps:=kI (by rw[HL.out];omega);have hkn:k=ps.length:=by rw[HL.out];omega
   rw[e,hkn] at hown;clear e hkn;go_wp2;go_ret;exact ⟨_,_,rfl,by omega,hb1,hown,hbw⟩
abbrev IL:= {x:Nat × Nat//x.2<=1099511627776}
def EG (ps:List (List UInt8)) (h:∀p∈ps,p.length<=1099511627776) (k:Nat):List IL:=
 (List.range k).map fun i=>⟨(i,(ps[i]?.getD []).length),by
  rcases kD i ps.length with hi|hi
  ·rw[gX hi];exact h _ (xR hi)
  ·rw[kV hi];simp⟩
theorem IR (ps:List (List UInt8)) (h:∀p∈ps,p.length<=1099511627776) (k:Nat) (x:IL) (hx:x.1=(k,(ps[k]?.getD []).length)):EG ps h (k+1)=EG ps h k++ [x]:=by
 unfold EG;rw[TT,Er]
 congr 1
 simp only[vw,xS,List.cons.injEq,and_true];exact Subtype.ext hx.symm
theorem L8 (ps:List (List UInt8)) (h:∀p∈ps,p.length<=1099511627776) (k:Nat):(EG ps h k).length=k:=by simp[EG]
theorem EH (n:Nat) (hn:1<=n) (g B:Nat) (v:Value) (ps:List (List UInt8)) (hle:∀p∈ps,p.length<=1099511627776) (hlen:ps.length<=1048576) (M:Nat->Obj->Prop) (w:World)
 (hg:av w g 75 #[v]) (hv:w.ownsRow B 3 1 v ps.length (lens ps)) (hMg:¬M g (.cells #[v] 75 (0,0))) (XB:∀k o,v.ownBlock=some k->¬M k o):
 SeqStopsK Fence.wide n prog 170 #[.pointer (some g)] (fun x:IL=> #[Value.int .i64 (x.1.1:Nat),.int .i64 (x.1.2:Nat)]) (Kept M)
  (fun xs=>xs=EG ps hle ps.length) (fun pre=>∃k,k<=ps.length/\pre=EG ps hle k) ps.length w:=fun l J Jx W hW _ _ hY h0=>by
 have hg':=hg.below hW hg.lt;have hv':W.ownsRow B 3 1 v ps.length (lens ps):=hv.kept (row:=none) ⟨hW.os,hW.tape,hW.output,hW.size,fun k hk _=>hW.block k hk⟩ (by
  rcases hb:v.ownBlock with _|k
  ·exact .inl rfl
  ·exact .inr (by simp))
 have hvk:∀wr,Kept M W wr->wr.ownsRow B 3 1 v ps.length (lens ps):=by
  intro wr hk;rcases hv'.2 with ⟨rfl,h0⟩|⟨g',cap,cur,rfl,h1,h2,h3⟩
  ·exact ⟨hv'.1,.inl ⟨rfl,h0⟩⟩
  ·exact ⟨hv'.1,.inr ⟨g',cap,cur,rfl,h1,hk.same _ _ h2 (XB _ _ rfl),h3⟩⟩
 have HVK:=ah hvk;clear hvk;obtain ⟨A,c,rfl,hsl,_⟩:=aY hv';refine Ev func170 rfl trivial ?_ rfl;simp only[ntmps170,vP,jh,gQ,Nat.reduceAdd,Nat.reduceSub,zA,zz,zF,zB,pY,qJ];have hcw:=hg'.cell 0;simp at hcw;refine nZ ?_
 gi_wp2
 refine wpIn_label ?_
 gi_wp2
 gi_loopw [7] (fun i wr=>∃k:Nat,k<=ps.length/\i= .int .i64 k/\J (EG ps hle k) wr/\Kept M W wr)
  (fun i _=>ps.length-(intOf i).toNat)
 case atStart=>exact ⟨0,eH _,by simp,by simpa[EG] using h0,Kept.refl _ _⟩
 case round=>
  obtain ⟨k,hk,rfl,hJs,hnx⟩:=hrel;by_cases hlt:k<ps.length
  ·obtain ⟨A',c',e',hs',_⟩:=aY (HVK.out wr hnx);injection e' with e1 e2 e3
   subst e1 e3;obtain ⟨ad,u,rfl,_,hu,hcell⟩:=hs'.get hlt;have hp:(ps[k]?.getD []).length<=1099511627776:=by
    rw[gX hlt];exact hle _ (xR _)
   have hu':u= .int .i64 ((ps[k]?.getD []).length:Nat):=by
    unfold lens at hu;rw[oW,gX hlt] at hu;rw[gX hlt];simpa using hu.symm
   have hsucc:=IR ps hle k ⟨(k,(ps[k]?.getD []).length),hp⟩ rfl;have Qz:=hY _ ⟨(k,(ps[k]?.getD []).length),hp⟩ wr hJs (by rw[L8];exact hlt);rw[hu'] at hcell;clear hu hu';have ZS:=ah hsucc;clear hsucc;generalize (ps[k]?.getD []).length=m at*;obtain ⟨fn,tmps,assign,body,hy,hR⟩:=Qz;dsimp only at hy
   gi_wp2
   refine hR.mono ?_;rintro e W3 (⟨rfl,hJ3,hk3⟩|⟨rfl,hJx3⟩)
   ·gi_wp2
    go_roundw
    case rel=>exact ⟨k+1,by omega,by go_num,by rw[ZS.out];exact hJ3,hnx.trans hk3⟩
    case measure=>simp[intOf];omega
   ·gi_wp2
    rw[Eo]
    go_end0
    exact ⟨⟨_,rfl⟩,.inr ⟨_,⟨k+1,by omega,ZS.out.symm⟩,hJx3⟩⟩
  ·have e:k=ps.length:=by omega
   have OA:J (EG ps hle ps.length) wr:=by rw[e] at hJs;exact hJs
   clear e hJs
   gi_wp2
   rw[Eo]
   go_end0
   exact ⟨⟨_,rfl⟩,.inl ⟨_,rfl,OA⟩⟩
def xY (l:List IL):Nat:=(l.map fun x=>x.1.2).sum
theorem EI (l:List IL) (x:IL):xY (l++ [x])=xY l+x.1.2:=by simp[xY]
theorem Ue (l:List IL):xY l<=1099511627776*l.length:=by
 induction l with
 |nil=>simp[xY]
 |cons x l ih=>
  have:=x.2;unfold xY at ih ⊢;rw[vw,zK,jh];omega
theorem OB (ps:List (List UInt8)) (h:∀p∈ps,p.length<=1099511627776) (k:Nat) (hk:k<=ps.length):xY (EG ps h k)=aj (ps.take k):=by
 induction k with
 |zero=>rfl
 |succ k ih=>
  have hp:(ps[k]?.getD []).length<=1099511627776:=by
   rw[gX (by omega)];exact h _ (xR _)
  rw[IR ps h k ⟨_,hp⟩ rfl,EI,jG ps k (by omega),ih (by omega)]
theorem XF {β:Type} (g:Nat) (t:TypeId) (f:β->Array Value):Own (fun s W=>av W g t (f s)):=fun s X Y row hs hg hrow=>
 hs.grown hg (fun e'=>by obtain ⟨o,ho,hc⟩:=hrow g e'.symm;rw[show X.heap[g]? =_ from hs] at ho;cases ho;cases hc)
theorem vX (s e:Bool) (A:Option Addr) (n c:Nat) (vs:List Value) (ps:List (List UInt8)) (w:World) (h:jW w w A n c vs ps) (hn:n<=1048576) (hle:∀p∈ps,p.length<=1099511627776):
 Calls prog 88 #[.agg #[.bool s,.bool e,.slice A n c]] w fun e w'=>e= .returned (.int .i64 (aj ps))/\Below w w w':=by
 refine (xI (n:=5)).1 ?_;have HL:=ah h.len;refine Em func88 rfl trivial ?_ rfl;simp only[ntmps88,vP,jh,gQ,Nat.reduceAdd,Nat.reduceSub,zA,zz,zF,zB,pY,qJ];have hA:=(h.alloc (aL) (.cells #[.bool s,.bool e,.slice A n c] 145)).alloc (by simp) (.cells #[.int .i64 0] 3);have hA:=hA.more (B':=((w.alloc (.cells #[.bool s,.bool e,.slice A n c] 145)).alloc (.cells #[.int .i64 0] 3)).heap.size) (by simp;omega);have HA:=ah hA;clear hA
 gi_wp2_with (refine ⟨trivial,?_⟩;gi_at_call 130;refine ((xI (n:=4)).2 (L6 s e A n c vs ps _ HA.out hn)).mono ?_;rintro e1 w1 ⟨g,v,rfl,hg,hbg,hv,hbw⟩)
 have hr0:av ((w.alloc (.cells #[.bool s,.bool e,.slice A n c] 145)).alloc (.cells #[.int .i64 0] 3)) (w+1) 3 #[.int .i64 0]:=by
  simpa using av.new (w.alloc (.cells #[.bool s,.bool e,.slice A n c] 145)) 3 #[.int .i64 0]
 have hr1:=hr0.below hbw hr0.lt;have hgn:g≠w.heap.size+1:=by simp at hg;omega
 have hvn:∀k,v.ownBlock=some k->k≠w.heap.size+1:=fun k hk=>by have:=(hv.lt k hk).1;simp at this;omega
 have hB1:Below w w w1:=((bS _ w).alloc (aL) _).alloc (by simp) _ |>.trans (hbw.mono (by simp;omega));have hsz:w.heap.size+1<w1.heap.size:=hr1.lt;refine wpIn_rangeFunc_ownG rfl (by omega) (gf:=170) (lb:= #[.pointer (some g)]) rfl trivial (enters_of func170 (by kernel_rfl) rfl)
  (EH _ (by omega) g _ v ps hle (by rw[HL.out];exact hn) (MB (fun k _=>k=w.heap.size+1) w1) w1 hbg hv (by rintro (e|⟨_,e⟩);exact hgn e;cases e) (fun k o hk=>by
   rintro (e|⟨e,_⟩)
   ·exact hvn k hk e
   ·have:=(hv.lt k hk).2;omega))
  Kept.trans (MB.b w1) (bS _ _) (fun _=>rfl)
  (fun pre W=>av W (w+1) 3 #[.int .i64 (xY pre)]/\Kept (MB (fun k _=>k=w.heap.size+1) w1) w1 W) (fun _ _ _=>False)
  (OwnFrom.and (Own.from (XF _ _ _) _) zL) (fun _ _ _ _ _ hs _ _=>hs)
  ⟨by simpa[xY] using hr1,Kept.refl _ _⟩
  (fun x=> {tmps:= #[.agg #[.bool s,.bool e,.slice A n c],.pointer (some w),.pointer (some ⟨w+1,0,none⟩),undef,.int .i64 (x.1.2:Nat),.agg #[.bool s,.bool e,.slice A n c],.func (.func 170) #[] #[.pointer (some g)],.int .i64 (x.1.1:Nat),.int .i64 (x.1.2:Nat),undef,undef,undef,undef],defers:= []}) ?assign ?body ?done ?stop
 case assign=>
  intro l x W K hK
  gi_wp2
  exact hK
 case body=>
  rintro lp pre x W ⟨hbx,Og⟩ hlen;have hc:=hbx.cell 0;have hf:=hbx.frozen 0;simp at hc;have hx:=x.2;have hsl:=Ue pre;have hsn:=EI pre x;have WS:=ah hsn;clear hsn;generalize xY pre=S at*;have hlen':pre.length<1048576:=by have:=HL.out;omega
  obtain ⟨⟨xi,xl⟩,hxl⟩:=x;dsimp only at*
  gi_wp2
  refine ⟨(zC _ _ _).from _,(Kept.refl _ W).setCell (p:=⟨w+1,0,none⟩) (fun _ _=> .inl rfl) _,?_,Og.setCell (p:=⟨w+1,0,none⟩) (fun _ _=> .inl rfl) _⟩;rw[WS.out];simpa using hbx.ay 0 (.int .i64 ((S:Int)+xl))
 case done=>
  rintro D ys W hD rfl ⟨hbx,Og⟩ hK;have hc:=hbx.cell 0;have hf:=hbx.frozen 0;simp at hc;have hS:=OB ps hle ps.length (aL);rw[kI (aL)] at hS;rw[hS] at hc hbx;clear hS;generalize hSS:aj ps=S at*;have WT:=ah hSS;clear hSS;have hK2:=(zC W ⟨w+1,0,none⟩ S).same D _ hK rfl
  gi_wp2
  refine ⟨by simp,.inl ⟨_,_,rfl,Cx hK2,?_⟩⟩;have aj4:=(Og.setCell (p:=⟨w+1,0,none⟩) (fun _ _=> .inl rfl) S).taken (.deferred none) hD hK2 rfl;have aj5:=(hbx.ay 0 S).grown (nX _ D (.deferred none)) (by simp;omega);have hc2:=aj5.cell 0;simp at hc2;refine ⟨.int .i64 S,by simp[results,results88,go_sem,hc2],qY (by rw[WT.out]),hB1.trans (aj4.drop.below (fun k o e=>by omega) (by omega))⟩
 case stop=>
  rintro D c pre W _ _ h _;exact h.elim
def lm (n:Nat):Bool:=decide (n=0)
def qc (n:Nat):Bool:=decide (2047<n)
def ZT (q:List UInt8->Bool) (ps:List (List UInt8)) (w:World) (e:Ending) (w':World):Prop:=
 (∃k:Nat,e= .returned k/\(∃p∈ps,q p=true)/\w=w')\/(e= .returned (.int .i64 (-1))/\(∀p∈ps,q p=false)/\w=w')
theorem IU (A:Option Addr) (n c:Nat) (w:World):Calls prog 211 #[.slice A n c] w fun e w'=>e= .returned (.bool (lm n))/\w=w':=by
 have hd:((n:Int)==0)=lm n:=by unfold lm;rw[mr];simp;try omega
 generalize lm n=r at*;go_enter func211,ntmps211;go_wp2;go_ret
 first|exact ⟨rfl,rfl⟩|exact ⟨dm hd,rfl⟩
theorem EJ (A:Option Addr) (n c:Nat) (vs:List Value) (ps:List (List UInt8)) (w:World) (h:jW w w A n c vs ps):
 Calls prog 224 #[.slice A n c,.func (.func 211) #[] #[]] w (ZT (fun p=>lm p.length) ps w):=by
 have HL:=ah h.len;have hn63:n<=9223372036854775807:=by have:=h.sl.cap;have:=h.sl.mx;omega
 go_enter func224,ntmps224;go_wp2
 go_loop [8] (fun i=>∃k:Nat,k<=n/\i= .int .i64 k/\∀p∈ps.take k,lm p.length=false) (fun i=>n-(intOf i).toNat)
 case atStart=>exact ⟨0,eH _,rfl,by simp⟩
 case round=>
  obtain ⟨k,hk,rfl,hall⟩:=hrel;have HA:=ah hall;clear hall;by_cases hlt:k<n
  ·obtain ⟨ad,Ai,ci,rfl,hb,hc,hsl⟩:=h.get hlt;have hkl:k<ps.length:=by rw[HL.out];exact hlt
   have hin:ps[k]?.getD []∈ps:=by rw[gX hkl];exact xR _
   have htk:ps.take (k+1)=ps.take k++ [ps[k]?.getD []]:=by rw[pX,gX hkl];rfl
   generalize ps[k]?.getD []=p at*;have HT:=ah htk;have HI:=ah hin;clear htk hin hkl;cases hq:lm p.length with
   |false=>
    have HQ:=ah hq;have jE:=IU Ai p.length ci w;rw[hq] at jE;have HF:=ah jE;clear jE hq;go_wp2_with (go_at_call 211;refine HF.out.mono ?_;rintro e w' ⟨rfl,rfl⟩)
    go_round
    case rel=>exact ⟨k+1,by omega,by go_num,by
     intro q hq;rw[HT.out,iH] at hq;rcases hq with hq|hq
     ·exact HA.out q hq
     ·rw[nC] at hq;rw[hq];exact HQ.out⟩
    case measure=>simp[intOf];omega
   |true=>
    have HQ:=ah hq;have jE:=IU Ai p.length ci w;rw[hq] at jE;have HF:=ah jE;clear jE hq;go_wp2_with (go_at_call 211;refine HF.out.mono ?_;rintro e w' ⟨rfl,rfl⟩);go_ret;exact .inl ⟨k,rfl,⟨p,HI.out,HQ.out⟩,rfl⟩
  ·have e:ps.take k=ps:=kI (by rw[HL.out];omega);have hA:=HA.out;rw[e] at hA;have DU:=ah hA;clear hA e;go_wp2;go_ret;exact .inr ⟨rfl,DU.out,rfl⟩
theorem zQ (A:Option Addr) (n c:Nat) (vs:List Value) (ps:List (List UInt8)) (w:World) (h:jW w w A n c vs ps):
 Calls prog 216 #[.slice A n c,.func (.func 211) #[] #[]] w fun e w'=>e= .returned (.bool (ps.any fun p=>lm p.length))/\w=w':=by
 go_enter func216,ntmps216;go_wp2_with fail;refine (EJ A n c vs ps w h).mono ?_;rintro e w' (⟨k,rfl,⟨p,hp,hq⟩,rfl⟩|⟨rfl,hall,rfl⟩)
 ·have hany:(ps.any fun p=>lm p.length)=true:=by rw[Eu];exact ⟨p,hp,hq⟩
  have HA:=ah hany;clear hany;go_wp2;go_ret;exact ⟨dm (by rw[HA.out]),rfl⟩
 ·have hany:(ps.any fun p=>lm p.length)=false:=by rw[List.any_eq_false];intro p hp;have:=hall p hp;dsimp only at this;rw[this];simp
  have HA:=ah hany;clear hany hall;go_wp2;go_ret;exact ⟨dm (by rw[HA.out]),rfl⟩
theorem L9 (A:Option Addr) (n c:Nat) (w:World):Calls prog 212 #[.slice A n c] w fun e w'=>e= .returned (.bool (qc n))/\w=w':=by
 have hd:(decide (2047<(n:Int)))=qc n:=by unfold qc;rw[mr];simp;try omega
 generalize qc n=r at*;go_enter func212,ntmps212;go_wp2;go_ret
 first|exact ⟨rfl,rfl⟩|exact ⟨dm hd,rfl⟩
theorem Hg (A:Option Addr) (n c:Nat) (vs:List Value) (ps:List (List UInt8)) (w:World) (h:jW w w A n c vs ps):
 Calls prog 224 #[.slice A n c,.func (.func 212) #[] #[]] w (ZT (fun p=>qc p.length) ps w):=by
 have HL:=ah h.len;have hn63:n<=9223372036854775807:=by have:=h.sl.cap;have:=h.sl.mx;omega
 go_enter func224,ntmps224;go_wp2
 go_loop [8] (fun i=>∃k:Nat,k<=n/\i= .int .i64 k/\∀p∈ps.take k,qc p.length=false) (fun i=>n-(intOf i).toNat)
 case atStart=>exact ⟨0,eH _,rfl,by simp⟩
 case round=>
  obtain ⟨k,hk,rfl,hall⟩:=hrel;have HA:=ah hall;clear hall;by_cases hlt:k<n
  ·obtain ⟨ad,Ai,ci,rfl,hb,hc,hsl⟩:=h.get hlt;have hkl:k<ps.length:=by rw[HL.out];exact hlt
   have hin:ps[k]?.getD []∈ps:=by rw[gX hkl];exact xR _
   have htk:ps.take (k+1)=ps.take k++ [ps[k]?.getD []]:=by rw[pX,gX hkl];rfl
   generalize ps[k]?.getD []=p at*;have HT:=ah htk;have HI:=ah hin;clear htk hin hkl;cases hq:qc p.length with
   |false=>
    have HQ:=ah hq;have jE:=L9 Ai p.length ci w;rw[hq] at jE;have HF:=ah jE;clear jE hq;go_wp2_with (go_at_call 212;refine HF.out.mono ?_;rintro e w' ⟨rfl,rfl⟩)
    go_round
    case rel=>exact ⟨k+1,by omega,by go_num,by
     intro q hq;rw[HT.out,iH] at hq;rcases hq with hq|hq
     ·exact HA.out q hq
     ·rw[nC] at hq;rw[hq];exact HQ.out⟩
    case measure=>simp[intOf];omega
   |true=>
    have HQ:=ah hq;have jE:=L9 Ai p.length ci w;rw[hq] at jE;have HF:=ah jE;clear jE hq;go_wp2_with (go_at_call 212;refine HF.out.mono ?_;rintro e w' ⟨rfl,rfl⟩);go_ret;exact .inl ⟨k,rfl,⟨p,HI.out,HQ.out⟩,rfl⟩
  ·have e:ps.take k=ps:=kI (by rw[HL.out];omega);have hA:=HA.out;rw[e] at hA;have DU:=ah hA;clear hA e;go_wp2;go_ret;exact .inr ⟨rfl,DU.out,rfl⟩
theorem BG (A:Option Addr) (n c:Nat) (vs:List Value) (ps:List (List UInt8)) (w:World) (h:jW w w A n c vs ps):
 Calls prog 216 #[.slice A n c,.func (.func 212) #[] #[]] w fun e w'=>e= .returned (.bool (ps.any fun p=>qc p.length))/\w=w':=by
 go_enter func216,ntmps216;go_wp2_with fail;refine (Hg A n c vs ps w h).mono ?_;rintro e w' (⟨k,rfl,⟨p,hp,hq⟩,rfl⟩|⟨rfl,hall,rfl⟩)
 ·have hany:(ps.any fun p=>qc p.length)=true:=by rw[Eu];exact ⟨p,hp,hq⟩
  have HA:=ah hany;clear hany;go_wp2;go_ret;exact ⟨dm (by rw[HA.out]),rfl⟩
 ·have hany:(ps.any fun p=>qc p.length)=false:=by rw[List.any_eq_false];intro p hp;have:=hall p hp;dsimp only at this;rw[this];simp
  have HA:=ah hany;clear hany hall;go_wp2;go_ret;exact ⟨dm (by rw[HA.out]),rfl⟩
theorem jW.drew' {w:World} {B n c:Nat} {A:Option Addr} {vs:List Value} {ps:List (List UInt8)} (h:jW w B A n c vs ps):jW w.drew B A n c vs ps:=⟨h.sl.drew,h.len,fun i p hi=>let ⟨Ai,ci,e,hs⟩:=h.each i p hi;⟨Ai,ci,e,hs.drew⟩⟩
theorem jW.jI {w:World} {n c:Nat} {A:Option Addr} {vs:List Value} {ps:List (List UInt8)} (h:jW w w A n c vs ps) (k:Nat):jW (w.drewN k) (w.drewN k).heap.size A n c vs ps:=⟨h.sl.drewN k,h.len,fun i p hi=>let ⟨Ai,ci,e,hs⟩:=h.each i p hi;⟨Ai,ci,e,hs.drewN k⟩⟩
theorem jW.pre {w:World} {B n c k:Nat} {A:Option Addr} {vs:List Value} {ps:List (List UInt8)} (h:jW w B A n c vs ps) (hk:k<=n):jW w B A k k (vs.take k) (ps.take k):=by
 refine ⟨⟨by rw[kz,h.sl.len];omega,aL,by have:=h.sl.cap;have:=h.sl.mx;omega,fun hp=> ?_⟩,by rw[kz,h.len];omega,fun i p hi=> ?_⟩
 ·obtain ⟨ad,e,hb,hc⟩:=h.sl.at_ (by omega);refine ⟨ad,e,hb,fun j u hu=>hc j u ?_⟩;rw[pW] at hu;split at hu
  ·exact hu
  ·cases hu
 ·rw[pW] at hi;split at hi
  ·obtain ⟨Ai,ci,e,hs⟩:=h.each i p hi;exact ⟨Ai,ci,by rw[pW,bD (by assumption)];exact e,hs⟩
  ·cases hi
def IV (bs:List Bool) (Inv:World->Prop) (e:Ending) (w':World):Prop:=
 ((∃k:Nat,e= .returned k/\bs.all id=false)\/(e= .returned (.int .i64 (-1))/\bs.all id=true))/\Inv w'
theorem J6 (b:Nat) (ng:List Value) (bs:List Bool) (Inv:World->Prop) (w:World) (hlen:bs.length=ng.length) (hsm:ng.length<=1000) (hI:∀W,Inv W->av W b 26 ng.toArray)
 (hcall:∀(i:Nat) (fv:Value) (x:Bool) (W:World),ng[i]? =some fv->bs[i]? =some x->(∀y∈bs.take i,y=true)->Inv W->Calls prog 223 #[fv] W fun e W'=>e= .returned (.bool (!x))/\Inv W')
 (h0:Inv w):Calls prog 221 #[.slice (some ⟨b,0,none⟩) ng.length ng.length,.func (.func 223) #[] #[]] w (IV bs Inv):=by
 have HC:=ah hcall;have HI:=ah hI;have HL:=ah hlen;clear hcall hI hlen;obtain ⟨N,hN⟩:∃N,N=ng.length:=⟨_,rfl⟩
 rw[<-hN] at hsm ⊢;have HN:=ah hN;clear hN;go_enter func221,ntmps221;go_wp2
 go_loopw [8] (fun i wr=>∃k:Nat,k<=N/\i= .int .i64 k/\(∀y∈bs.take k,y=true)/\Inv wr) (fun i _=>N-(intOf i).toNat)
 case atStart=>exact ⟨0,eH _,rfl,by simp,h0⟩
 case round=>
  clear h0;obtain ⟨k,hk,rfl,hall,hinv⟩:=hrel;have HA:=ah hall;clear hall;by_cases hlt:k<N
  ·obtain ⟨fv,jE⟩:∃fv,ng[k]? =some fv:=⟨_,gX (by rw[<-HN.out];exact hlt)⟩
   obtain ⟨x,hx⟩:∃x,bs[k]? =some x:=⟨_,gX (by rw[HL.out,<-HN.out];exact hlt)⟩
   have hcl:=HC.out k fv x wr jE hx HA.out hinv;have hcell:=(HI.out wr hinv).cell k;rw[nW,jE] at hcell;have yB:=ah hcl;have HX:=ah hx;clear hcl jE hx;cases x with
   |true=>
    go_wp2_with (go_at_call 223;refine yB.out.mono ?_;rintro e w' ⟨rfl,hi'⟩)
    go_roundw
    case rel=>exact ⟨k+1,by omega,by go_num,by
     intro y hy;rw[pX,HX.out,iH] at hy;rcases hy with hy|hy
     ·exact HA.out y hy
     ·simpa using hy,hi'⟩
    case measure=>simp[intOf];omega
   |false=>
    go_wp2_with (go_at_call 223;refine yB.out.mono ?_;rintro e w' ⟨rfl,hi'⟩);go_ret;refine ⟨.inl ⟨k,rfl,?_⟩,hi'⟩;rw[List.all_eq_false];exact ⟨false,iT HX.out,by simp⟩
  ·have e:bs.take k=bs:=kI (by rw[HL.out,<-HN.out];omega);have hA:=HA.out;rw[e] at hA;have DU:=ah hA;clear hA e;go_wp2;go_ret;exact ⟨.inr ⟨rfl,by rw[Dq];exact DU.out⟩,hinv⟩
theorem Dv (b:Nat) (ng:List Value) (bs:List Bool) (Inv:World->Prop) (w:World)
 (h:Calls prog 221 #[.slice (some ⟨b,0,none⟩) ng.length ng.length,.func (.func 223) #[] #[]] w (IV bs Inv)):
 Calls prog 206 #[.slice (some ⟨b,0,none⟩) ng.length ng.length,.func (.func 223) #[] #[]] w fun e w'=>e= .returned (.bool (!bs.all id))/\Inv w':=by
 have H:=ah h;clear h;go_enter func206,ntmps206;go_wp2_with fail;refine H.out.mono ?_;rintro e w' ⟨⟨k,rfl,ha⟩|⟨rfl,ha⟩,hi⟩
 ·have HA:=ah ha;clear ha;go_wp2;go_ret;exact ⟨dm (by rw[HA.out];rfl),hi⟩
 ·have HA:=ah ha;clear ha;go_wp2;go_ret;exact ⟨dm (by rw[HA.out];rfl),hi⟩
theorem XG (b:Nat) (ng:List Value) (bs:List Bool) (Inv:World->Prop) (w:World)
 (h:Calls prog 206 #[.slice (some ⟨b,0,none⟩) ng.length ng.length,.func (.func 223) #[] #[]] w fun e w'=>e= .returned (.bool (!bs.all id))/\Inv w'):
 Calls prog 213 #[.slice (some ⟨b,0,none⟩) ng.length ng.length] w fun e w'=>e= .returned (.bool (bs.all id))/\Inv w':=by
 have H:=ah h;clear h;go_enter func213,ntmps213;go_wp2_with fail;refine H.out.mono ?_;rintro e w' ⟨rfl,hi⟩;go_wp2;go_ret;exact ⟨dm (by simp),hi⟩
def qf (ps:List (List UInt8)):List Bool:=
 [decide (1<=ps.length/\ps.length<=64),!(ps.any fun p=>lm p.length),!((ps.take (ps.length-1)).any fun p=>qc p.length),decide (aj ps<=32767)]
def rM (ps:List (List UInt8)):Bool:=(qf ps).all id
theorem abb (bn n:Nat) (w:World) (h:av w bn 3 #[n]):
 Calls prog 214 #[.pointer (some bn)] w fun e w'=>e= .returned (.bool (decide (1<=n/\n<=64)))/\w=w':=by
 have hc:=h.cell 0;simp at hc;by_cases h1:1<=n
 ·by_cases h2:n<=64
  ·have hd:decide (1<=n/\n<=64)=true:=by simp;omega
   rw[hd];clear hd;go_enter func214,ntmps214;go_wp2;go_ret;exact ⟨dm (by simp;omega),rfl⟩
  ·have hd:decide (1<=n/\n<=64)=false:=by simp;omega
   rw[hd];clear hd;go_enter func214,ntmps214;go_wp2;go_ret;exact ⟨dm (by simp;omega),rfl⟩
 ·have hd:decide (1<=n/\n<=64)=false:=by simp;omega
  rw[hd];clear hd;go_enter func214,ntmps214;go_wp2;go_ret;exact ⟨rfl,rfl⟩
theorem abd (bc be:Nat) (s e:Bool) (A:Option Addr) (n c:Nat) (vs:List Value) (ps:List (List UInt8)) (w:World) (h:jW w w A n c vs ps)
 (hc:av w bc 145 #[.bool s,.bool e,.slice A n c]) (he:av w be 288 #[.func (.func 211) #[] #[]]):
 Calls prog 215 #[.pointer (some bc),.pointer (some be)] w fun e w'=>e= .returned (.bool (!(ps.any fun p=>lm p.length)))/\w=w':=by
 have hc2:=hc.cell 2;have he0:=he.cell 0;simp at hc2 he0;have hct:=zQ A n c vs ps w h;have HC:=ah hct;clear hct;generalize (ps.any fun p=>lm p.length)=r at*;go_enter func215,ntmps215;go_wp2_with (go_at_call 216;refine HC.out.mono ?_;rintro e w' ⟨rfl,rfl⟩);go_ret;exact ⟨rfl,rfl⟩
theorem abe (bc bn bl:Nat) (s e:Bool) (A:Option Addr) (n c:Nat) (vs:List Value) (ps:List (List UInt8)) (w:World) (h:jW w w A n c vs ps)
 (hc:av w bc 145 #[.bool s,.bool e,.slice A n c]) (hn:av w bn 3 #[n]) (hl:av w bl 288 #[.func (.func 212) #[] #[]]) (h1:1<=n):
 Calls prog 217 #[.pointer (some bc),.pointer (some bn),.pointer (some bl)] w fun e w'=>e= .returned (.bool (!((ps.take (n-1)).any fun p=>qc p.length)))/\Below w w w':=by
 have hc2:=hc.cell 2;have hn0:=hn.cell 0;have hl0:=hl.cell 0;simp at hc2 hn0 hl0;have hcap:=h.sl.cap;have hmx:=h.sl.mx;obtain ⟨m,rfl⟩:∃m,n=m+1:=⟨n-1,by omega⟩
 have hct:=fun W (hW:jW W W A (m+1) c vs ps)=>BG A m m _ _ W (hW.pre (k:=m) (by omega))
 have e1:m+1-1=m:=by omega
 rw[e1];generalize ((ps.take m).any fun p=>qc p.length)=r at*;have HC:=ah hct;clear hct e1;have e2:((m:Int)+1-1)=m:=by omega
 have e3:IntKind.i64.wrap ((m:Int)+1-1)=m:=by rw[e2];exact iG _ (by omega)
 go_enter func217,ntmps217;go_wp2
 go_quiet ((go_at_call 216;exact ve ((HC.out _ (h.jI _)).mono fun _ _ hh=>⟨hh.1,hh.2.symm⟩)))
 go_wp2;go_ret;exact ⟨rfl,(bS _ w).drewN _⟩
theorem abf (bc:Nat) (s e:Bool) (A:Option Addr) (n c:Nat) (vs:List Value) (ps:List (List UInt8)) (w:World) (h:jW w w A n c vs ps) (hn:n<=1048576) (hle:∀p∈ps,p.length<=1099511627776)
 (hc:av w bc 145 #[.bool s,.bool e,.slice A n c]):
 Calls prog 218 #[.pointer (some bc)] w fun e w'=>e= .returned (.bool (decide (aj ps<=32767)))/\Below w w w':=by
 have hc0:=hc.cell 0;have hc1:=hc.cell 1;have hc2:=hc.cell 2;simp at hc0 hc1 hc2;have hsz:=vX s e A n c vs ps w h hn hle;have HZ:=ah hsz;clear hsz hle;generalize aj ps=S at*;have hd:decide ((S:Int)<=32767)=decide (S<=32767):=by simp;omega
 generalize hr:decide (S<=32767)=r at*;clear hr;go_enter func218,ntmps218;go_wp2_with (go_at_call 88;refine HZ.out.mono ?_;rintro e w' ⟨rfl,hb⟩);go_ret
 first|exact ⟨rfl,hb⟩|exact ⟨dm hd,hb⟩
theorem abg (bn:Nat) (x:Bool) (w:World) (h:Calls prog 214 #[.pointer (some bn)] w fun e w'=>e= .returned (.bool x)/\Below w w w'):
 Calls prog 223 #[.func (.func 214) #[] #[.pointer (some bn)]] w fun e w'=>e= .returned (.bool (!x))/\Below w w w':=by
 have H:=ah h;clear h;go_enter func223,ntmps223;go_wp2_with (go_at_call 214;refine H.out.mono ?_;rintro e w' ⟨rfl,hb⟩);go_ret;exact ⟨rfl,hb⟩
theorem abh (bc be:Nat) (x:Bool) (w:World) (h:Calls prog 215 #[.pointer (some bc),.pointer (some be)] w fun e w'=>e= .returned (.bool x)/\Below w w w'):
 Calls prog 223 #[.func (.func 215) #[] #[.pointer (some bc),.pointer (some be)]] w fun e w'=>e= .returned (.bool (!x))/\Below w w w':=by
 have H:=ah h;clear h;go_enter func223,ntmps223;go_wp2_with (go_at_call 215;refine H.out.mono ?_;rintro e w' ⟨rfl,hb⟩);go_ret;exact ⟨rfl,hb⟩
theorem abj (bc bn bl:Nat) (x:Bool) (w:World) (h:Calls prog 217 #[.pointer (some bc),.pointer (some bn),.pointer (some bl)] w fun e w'=>e= .returned (.bool x)/\Below w w w'):
 Calls prog 223 #[.func (.func 217) #[] #[.pointer (some bc),.pointer (some bn),.pointer (some bl)]] w fun e w'=>e= .returned (.bool (!x))/\Below w w w':=by
 have H:=ah h;clear h;go_enter func223,ntmps223;go_wp2_with (go_at_call 217;refine H.out.mono ?_;rintro e w' ⟨rfl,hb⟩);go_ret;exact ⟨rfl,hb⟩
theorem abk (bc:Nat) (x:Bool) (w:World) (h:Calls prog 218 #[.pointer (some bc)] w fun e w'=>e= .returned (.bool x)/\Below w w w'):
 Calls prog 223 #[.func (.func 218) #[] #[.pointer (some bc)]] w fun e w'=>e= .returned (.bool (!x))/\Below w w w':=by
 have H:=ah h;clear h;go_enter func223,ntmps223;go_wp2_with (go_at_call 218;refine H.out.mono ?_;rintro e w' ⟨rfl,hb⟩);go_ret;exact ⟨rfl,hb⟩
theorem Rw (bc bn be bl b:Nat) (s e:Bool) (A:Option Addr) (n c:Nat) (vs:List Value) (ps:List (List UInt8)) (w:World) (h:jW w w A n c vs ps) (hn:n<=1048576) (hle:∀p∈ps,p.length<=1099511627776)
 (hbc:av w bc 145 #[.bool s,.bool e,.slice A n c]) (hbn:av w bn 3 #[n]) (hbe:av w be 288 #[.func (.func 211) #[] #[]]) (hbl:av w bl 288 #[.func (.func 212) #[] #[]])
 (hb:av w b 26 #[.func (.func 214) #[] #[.pointer (some bn)],.func (.func 215) #[] #[.pointer (some bc),.pointer (some be)],
  .func (.func 217) #[] #[.pointer (some bc),.pointer (some bn),.pointer (some bl)],.func (.func 218) #[] #[.pointer (some bc)]]):
 Calls prog 213 #[.slice (some ⟨b,0,none⟩) 4 4] w fun e w'=>e= .returned (.bool (rM ps))/\Below w w w':=by
 refine XG b [.func (.func 214) #[] #[.pointer (some bn)],.func (.func 215) #[] #[.pointer (some bc),.pointer (some be)],
  .func (.func 217) #[] #[.pointer (some bc),.pointer (some bn),.pointer (some bl)],.func (.func 218) #[] #[.pointer (some bc)]] (qf ps) (fun W=>Below w w W) w ?_
 refine Dv b _ (qf ps) (fun W=>Below w w W) w ?_;refine J6 b _ (qf ps) (fun W=>Below w w W) w rfl (by simp) (fun W hW=>hb.below hW hb.lt) ?_ (bS _ _);have hl:=h.len;intro i fv x W jE hx hpre hW;have hS:=(h.below hW).more hW.size;have key:Calls prog 223 #[fv] W fun e W'=>e= .returned (.bool (!x))/\Below W W W':=by
  match i,jE,hx,hpre with
  |0,jE,hx,_=>
   simp only[qf,oH,sj] at jE hx;subst jE hx;refine abg bn _ W ((abb bn n W (hbn.below hW hbn.lt)).mono fun e W' hh=>⟨?_,by rw[<-hh.2];exact bS _ _⟩);rw[hh.1,hl]
  |1,jE,hx,_=>
   simp only[qf,oH,Dn,sj] at jE hx;subst jE hx;exact abh bc be _ W ((abd bc be s e A n c vs ps W hS (hbc.below hW hbc.lt) (hbe.below hW hbe.lt)).mono fun e W' hh=>⟨hh.1,by rw[<-hh.2];exact bS _ _⟩)
  |2,jE,hx,hpre=>
   have h1:1<=n:=by
    have:=hpre (decide (1<=ps.length/\ps.length<=64)) (by simp[qf]);simp at this;omega
   simp only[qf,oH,Dn,sj] at jE hx;subst jE hx;rw[hl];exact abj bc bn bl _ W (abe bc bn bl s e A n c vs ps W hS (hbc.below hW hbc.lt) (hbn.below hW hbn.lt) (hbl.below hW hbl.lt) h1)
  |3,jE,hx,_=>
   simp only[qf,oH,Dn,sj] at jE hx;subst jE hx;exact abk bc _ W (abf bc s e A n c vs ps W hS hn hle (hbc.below hW hbc.lt))
  |i+4,jE,_,_=>simp at jE
 exact key.mono fun e W' hh=>⟨hh.1,hW.trans (hh.2.mono hW.size)⟩
theorem Ry (s e:Bool) (A:Option Addr) (n c:Nat) (vs:List Value) (ps:List (List UInt8)) (w:World) (h:jW w w A n c vs ps) (hn:n<=1048576) (hle:∀p∈ps,p.length<=1099511627776):
 Calls prog 195 #[.agg #[.bool s,.bool e,.slice A n c]] w fun e w'=>e= .returned (.bool (rM ps))/\Below w w w':=by
 have HLE:=ah hle;clear hle;have hK:=((((Kept.refl (fun k _=>w<=k) w).alloc (.cells #[.bool s,.bool e,.slice A n c] 145)).alloc (.cells #[n] 3)).alloc (.cells #[.func (.func 211) #[] #[]] 288)).alloc (.cells #[.func (.func 212) #[] #[]] 288);have hB:=(hK.alloc (.cells #[.func (.func 214) #[] #[.pointer (some ⟨w+1,0,none⟩)],.func (.func 215) #[] #[.pointer (some w),.pointer (some ⟨w.heap.size+1+1,0,none⟩)],
  .func (.func 217) #[] #[.pointer (some w),.pointer (some ⟨w+1,0,none⟩),.pointer (some ⟨w.heap.size+1+1+1,0,none⟩)],.func (.func 218) #[] #[.pointer (some w)]] 26)).below (B:=w.heap.size) (fun _ _ h=>h) (aL)
 clear hK;have b0:=av.new w 145 #[.bool s,.bool e,.slice A n c];have b1:=av.new (w.alloc (.cells #[.bool s,.bool e,.slice A n c] 145)) 3 #[n];have b2:=av.new ((w.alloc (.cells #[.bool s,.bool e,.slice A n c] 145)).alloc (.cells #[n] 3)) 288 #[.func (.func 211) #[] #[]];have b3:=av.new (((w.alloc (.cells #[.bool s,.bool e,.slice A n c] 145)).alloc (.cells #[n] 3)).alloc (.cells #[.func (.func 211) #[] #[]] 288)) 288 #[.func (.func 212) #[] #[]];have b4:=av.new ((((w.alloc (.cells #[.bool s,.bool e,.slice A n c] 145)).alloc (.cells #[n] 3)).alloc (.cells #[.func (.func 211) #[] #[]] 288)).alloc (.cells #[.func (.func 212) #[] #[]] 288)) 26 #[.func (.func 214) #[] #[.pointer (some ⟨w+1,0,none⟩)],.func (.func 215) #[] #[.pointer (some w),.pointer (some ⟨w.heap.size+1+1,0,none⟩)],
  .func (.func 217) #[] #[.pointer (some w),.pointer (some ⟨w+1,0,none⟩),.pointer (some ⟨w.heap.size+1+1+1,0,none⟩)],.func (.func 218) #[] #[.pointer (some w)]]
 simp only[mZ] at b1 b2 b3 b4;have hall:=Rw w (w+1) (w.heap.size+1+1) (w.heap.size+1+1+1) (w.heap.size+1+1+1+1) s e A n c vs ps _ ((h.below hB).more hB.size) hn HLE.out ((((b0.alloc _).alloc _).alloc _).alloc _) (((b1.alloc _).alloc _).alloc _) ((b2.alloc _).alloc _) (b3.alloc _) b4;have qM:=ah hall;have HB:=ah hB;clear hall b0 b1 b2 b3 b4 hB;generalize rM ps=r at*;go_enter func195,ntmps195;go_wp2_with (go_at_call 213;refine qM.out.mono ?_;rintro e w' ⟨rfl,hb⟩);go_ret;exact ⟨rfl,HB.out.trans (hb.mono HB.out.size)⟩
def mF (ps:List (List UInt8)) (i:Nat):List (Nat × Nat):= [((decide (i+2<ps.length)).toNat,1),((ps[i]?.getD []).length,11)]
def fE (ps:List (List UInt8)) (k:Nat):List Bool:=(List.range k).flatMap fun i=>aC (mF ps i)
theorem J7 (ps:List (List UInt8)) (k:Nat):fE ps (k+1)=fE ps k++aC (mF ps k):=by simp[fE,List.range_succ]
theorem qg (ps:List (List UInt8)) (k:Nat):(fE ps k).length=12*k:=by
 unfold fE;rw[List.length_flatMap];have:∀i,(aC (mF ps i)).length=12:=fun i=>by simp[aC,mF]
 simp only[this,List.map_const',List.length_range,List.sum_replicate_nat];omega
theorem jw {ps:List (List UInt8)} {p:List UInt8} (h:p∈ps):p.length<=aj ps:=by
 induction ps with
 |nil=>cases h
 |cons q ps ih=>
  unfold aj at ih ⊢;rw[vw,zK];rcases nE.1 h with rfl|h
  ·omega
  ·have:=ih h;omega
structure qh (ps:List (List UInt8)):Prop where
 lo:1<=ps.length
 hi:ps.length<=64
 pos:∀p∈ps,1<=p.length
 short:∀i,i+1<ps.length->(ps[i]?.getD []).length<=2047
 sum:aj ps<=32767
theorem nI (ps:List (List UInt8)):rM ps=true↔qh ps:=by
 unfold rM qf;simp only[List.all_cons,List.all_nil,Bool.and_true,id,gD,Bool.not_eq_true',gY,List.any_eq_false,Bool.not_eq_true];constructor
 ·rintro ⟨⟨h1,h2⟩,h3,h4,h5⟩;refine ⟨h1,h2,fun p hp=> ?_,fun i hi=> ?_,h5⟩
  ·have:=h3 p hp;simp[lm] at this;cases p with
   |nil=>exact absurd rfl this
   |cons=>simp
  ·have:=h4 (ps[i]?.getD []) (by
    rw[gX (by omega)];show ps[i]∈_
    rw[List.mem_take_iff_getElem];exact ⟨i,by omega,rfl⟩)
   simp[qc] at this;omega
 ·rintro ⟨h1,h2,h3,h4,h5⟩;refine ⟨⟨h1,h2⟩,fun p hp=> ?_,fun p hp=> ?_,h5⟩
  ·have:=h3 p hp;simp[lm];rintro rfl;simp at this
  ·rw[List.mem_take_iff_getElem] at hp;obtain ⟨i,hi,rfl⟩:=hp;have:=h4 i (by omega);rw[gX (by omega)] at this;simp[qc];simpa using this
def vY (B:Nat) (t:TypeId) (w:World) (n:Nat) (xs:List Value) (er:Int) (e:Ending) (w':World):Prop:=
 ∃v,e= .returned (.tuple #[v,er])/\w'.ownsRow B t 1 v n xs/\Below B w w'
end Go.Proofs.YtbhiklnljiehiaaGreat
