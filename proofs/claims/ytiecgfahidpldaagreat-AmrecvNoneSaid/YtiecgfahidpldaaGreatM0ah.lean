/- amrecv: take: whether bytes are received behind a range; the round's memory. amrecv: the missing ranges of a stored PDU. A queue's row: a row of its own from an offset on ('q = q[1:]', 'q = append(q, x)'). amsend: the transmitter's memory. amsend: Buffered, and what AmsendHolds asks after each call (plain). amsend: bounds (plain). amsend: check, held, next, place, pending, idle. State. amrecv: entries of a report: gaps, and what turns a range into an entry. status.Valid. -/
import Derived.Test.YtiecgfahidpldaaGreatM0aa
import Derived.Test.YtiecgfahidpldaaGreatM0ac
import Derived.Test.YtiecgfahidpldaaGreatM0ad
import Derived.Test.YtiecgfahidpldaaGreatM0ae
import Derived.Test.YtiecgfahidpldaaGreatM0ag
import Derived.StillTailTactics
import Derived.ArgAppend
import Derived.Deep.RegionHeld3
import Derived.Deep.DeepCutAuto
import Derived.Laws.ResultCell
namespace Go.Proofs.YtiecgfahidpldaaGreat
section
open Go.RowKit Go.Shelf
attribute [local go_sem] Oper.semAt_some
section
variable {w w':World} {A:Option Addr} {n c:Nat} {l:List Fl}
theorem vQ (f:Fl) (w:World):Calls Tryz.prog 84 #[.agg #[.bool f.1,.bool f.2.1,.bool f.2.2]] w fun e w'=>e= .returned (.bool f.1)∧Below w.heap.size w w':=by
 have hb:=av.new w 101 #[.bool f.1,.bool f.2.1,.bool f.2.2];have c0:=hb.cell 0;simp at c0;clear hb;go_enter Tryz.func84,Tryz.ntmps84;go_wp2;go_ret;exact ⟨rfl,(Below.refl _ w).alloc (Nat.le_refl _) _⟩
set_option maxHeartbeats 400000 in
theorem xP (h:fA w A n c l) (hn:n≤100000):
 Calls Tryz.prog 83 #[.slice A n c,.func (.func 84) #[] #[]] w fun e w'=>e= .returned (.bool (l.any (fun f=>f.1)))∧Below w.heap.size w w':=by
 have key:Calls Tryz.prog 136 #[.slice A n c,.func (.func 84) #[] #[]] w fun e w'=>(∃i:Int,e= .returned (.int .i64 i)∧(decide (i≥0))=l.any (fun f=>f.1))∧Below w.heap.size w w':=by
  have hcap:=h.cap;have hmx:=h.mx;have HH:=Lib.hid h;have hlen:=h.len;clear h;go_enter Tryz.func136,Tryz.ntmps136;go_wp2
  go_loopw [8] (fun i wr=>∃k:Nat,k≤n∧i= .int .i64 k∧(l.take k).any (fun f=>f.1)=false∧Below w.heap.size w wr) (fun i _=>n-(intOf i).toNat)
  case atStart=>exact ⟨0,Nat.zero_le _,rfl,by simp,Below.refl _ w⟩
  case round=>
   obtain ⟨k,hk,rfl,hno,hb⟩:=hrel;by_cases hlt:k<n
   ·obtain ⟨g,o,rfl,hg,hc⟩:=(HH.out.below hb).at_ (by omega);obtain ⟨f,hf⟩:∃f,l[k]? =some f:=⟨_,List.getElem?_eq_getElem (by omega)⟩
    obtain ⟨k0,k1,k2⟩:=hc k f hf;have hcl:=vQ f wr;have hst:(l.take (k+1)).any (fun f=>f.1)=f.1:=by rw[List.take_add_one,hf,List.any_append,hno];simp
    have hall:f.1=true→l.any (fun f=>f.1)=true:=fun e=>List.any_eq_true.2 ⟨f,List.mem_of_getElem? hf,e⟩
    have HST:=Lib.hid hst;have iW:=Lib.hid hall;have HB:=Lib.hid hb;have qI:=Lib.hid hcl;obtain ⟨fg,fs,fe⟩:=f;dsimp only at k0 k1 k2 HST iW qI;clear hc hf hno hst hall hb hcl;cases fg with
    |true=>
     go_wp2_with fail;refine qI.out.mono ?_;rintro e1 w1 ⟨rfl,hb1⟩;go_wp2;go_ret;exact ⟨⟨k,rfl,by rw[iW.out trivial];simp⟩,HB.out.trans (hb1.mono HB.out.size)⟩
    |false=>
     go_wp2_with fail;refine qI.out.mono ?_;rintro e1 w1 ⟨rfl,hb1⟩;go_wp2
     go_round
     case rel=>exact ⟨k+1,by omega,by go_num,HST.out,HB.out.trans (hb1.mono HB.out.size)⟩
     case measure=>simp[intOf];omega
   ·have e:l.take k=l:=List.take_of_length_le (by omega);rw[e] at hno;have HN:=Lib.hid hno;have HB:=Lib.hid hb;clear e hno hb;go_wp2;go_ret;exact ⟨⟨-1,rfl,by rw[HN.out];rfl⟩,HB.out⟩
 have HK:=Lib.hid key;have hcap:=h.cap;have hmx:=h.mx;clear key h;go_enter Tryz.func83,Tryz.ntmps83;go_wp2_with fail;refine HK.out.mono ?_;rintro e1 w1 ⟨⟨i,rfl,hi⟩,hb1⟩;have HI:=Lib.hid hi;clear hi;go_wp2;go_ret;exact ⟨by rw[←HI.out];rfl,hb1⟩
end
section
variable {P:Program} {ops:Array Oper} {Q:Exit→Act→World→Prop} {n l:Nat}
theorem je {id:Nat} {a:Act} {w:World} (S:World→Prop) (L:List Nat) (hm:P.follows .mixedOrders=true) (hd:ops.toList.all gF=true) (hout:¬LetsOut Q)
 (h:bD P .any ops Q S L ops.size (Array.replicate ops.size false) a w.drew):(Code.region id ops true).wpIn (Fence.wide.inRound l) n P Q a w:=
 wpIn_region_any hm (dL hd hout _ _ _ _ (jd _ _ _ _ h))
end
section
variable {P:Program}
theorem aC {id m lr:Nat} {Q:Exit→Act→World→Prop} {a:Act} {w:World} {l:List Oper} (n:Nat) (hm:P.follows .mixedOrders=true) (hd:l.toArray.toList.all gF=true) (hout:¬LetsOut Q) (hB:Region.lexTailB .any l.toArray n=true)
 (h:wpStill P l.toArray {w with drawn:=w.drawn+1} (fun a'=>wpList P l.toArray Q (l.drop n) a' {w with drawn:=w.drawn+1}) (l.take n) a):(Code.region id l.toArray true).wpIn (Fence.wide.inRound lr) m P Q a w:=by
 simp only[Region.lexTailB,Bool.and_eq_true,decide_eq_true_eq] at hB;obtain ⟨⟨⟨⟨hsel,hn⟩,hs⟩,hc⟩,hlex⟩:=hB;have hn':n<l.length:=by simpa using hn
 have htl:(l.take n).length=n:=by simp;omega
 have hdl:(l.drop n).length=l.toArray.size-n:=by simp
 have inv0:HeadInv .any l.toArray n (Array.replicate l.toArray.size false):=
  ⟨by simp,fun j oj _ hl=>(by rw[getD_replicate_false] at hl;cases hl),fun t _ ht=>getD_in (by simpa using ht) (getD_replicate_false _ _)⟩
 have H:=wpAnyL_lex (md:= .any) (g:=l.toArray.size-n) hsel hs hc hn (l.take n) 0 _ a (fun j hj=>by
  have hj':j<n:=by rw[htl] at hj;exact hj
  simp[hj']) (by simpa using htl) inv0 (by rw[htl];exact hlex) h
 refine wpIn_region_any hm (dL hd hout _ _ _ _ ?_);have:=wpAny_of_head (Q':=Q) (g:=l.toArray.size-n) (fun listed a' hL=>by
  have:=wpAny_of_seq (md:= .any) (Q':=Q) (l.drop n) n listed a' {w with drawn:=w.drawn+1} (fun j=>by simp[List.getElem?_drop]) (by rw[hdl];exact hL.1) hL.2
  rwa [hdl] at this) _ _ _ H
 rw[htl,show n+(l.toArray.size-n)=l.toArray.size by omega] at this;exact this
end
theorem jK {W:World} {base size n:Nat} {e:TypeId} {v:Value} {xs:List Value} (h:W.ownsRow base e size v n xs) (hn:0<n):∃g cap,v= .slice (some ⟨g,0,none⟩) n cap∧n≤cap∧cap≤9223372036854775807∧g<W.heap.size:=by
 rcases h.2 with ⟨_,h0⟩|⟨g,cap,cur,rfl,_,hg,h1,h2,_⟩
 ·omega
 ·exact ⟨g,cap,rfl,h1,by unfold maxLen at h2;omega,lt_of_heap hg⟩
theorem kK (s e:Bool) (n:Nat):∀(a:List (List UInt8)) (i:Nat) (p:List UInt8),dh s e n i (a++ [p])=dh s e n i a++iP p (decide (0<i+a.length)||s) (decide (i+a.length+1<n)||e)
 | [],i,p=>by simp[dh]
 |q::r,i,p=>by
  rw[List.cons_append,dh,dh,kK s e n r (i+1) p,List.append_assoc,List.length_cons];rw[show i+1+r.length=i+(r.length+1) by omega]
theorem q8 {s e:Bool} {n:Nat} {ps:List (List UInt8)} {k:Nat} {p:List UInt8} (h:ps[k]? =some p):dh s e n 0 (ps.take (k+1))=dh s e n 0 (ps.take k)++iP p (decide (0<k)||s) (decide (k+1<n)||e):=by
 have hk:=(List.getElem?_eq_some_iff.1 h).1;rw[List.take_add_one,h];simp only[Option.toList];rw[kK,List.length_take,Nat.min_eq_left (by omega),Nat.zero_add]
theorem xQ (l:List (Fl × UInt8)) (f:Fl) (b:UInt8) (a:Nat) (x:List Fl × List UInt8):
 qo (l++ [(f,b)]) a x=if (bK (qo l a x).1 (a+l.length)).1=true then qo l a x else ((qo l a x).1.set (a+l.length) f,(qo l a x).2.set (a+l.length) b):=by
 rw[pK];rfl
def zh (s e:Bool) (off:Nat) (ps:List (List UInt8)) (x0:List Fl × List UInt8) (k:Nat):List Fl × List UInt8:=qo (dh s e ps.length 0 (ps.take k)) off x0
def ng (s e:Bool) (off:Nat) (ps:List (List UInt8)) (x0:List Fl × List UInt8) (k j:Nat):List Fl × List UInt8:=
 qo ((iP (ps[k]?.getD []) (decide (0<k)||s) (decide (k+1<ps.length)||e)).take j) (off+aB (ps.take k)) (zh s e off ps x0 k)
section
variable {s e:Bool} {off:Nat} {ps:List (List UInt8)} {x0:List Fl × List UInt8} {k:Nat}
theorem xR:ng s e off ps x0 k 0=zh s e off ps x0 k:=by
 unfold ng;rw[List.take_zero];rfl
theorem xS (hk:k<ps.length):ng s e off ps x0 k (ps[k]?.getD []).length=zh s e off ps x0 (k+1):=by
 have hp:ps[k]? =some ps[k]:=List.getElem?_eq_getElem hk;unfold ng zh;rw[q8 (n:=ps.length) hp,pK,lZ,hp,Option.getD_some,List.take_of_length_le (by rw[j6];exact Nat.le_refl _)]
theorem zZ (j:Nat):(ng s e off ps x0 k j).1.length=x0.1.length∧(ng s e off ps x0 k j).2.length=x0.2.length:=by
 unfold ng zh;have h1:=jF (dh s e ps.length 0 (ps.take k)) off x0;have h2:=jF ((iP (ps[k]?.getD []) (decide (0<k)||s) (decide (k+1<ps.length)||e)).take j) (off+aB (ps.take k)) (qo (dh s e ps.length 0 (ps.take k)) off x0);exact ⟨h2.1.trans h1.1,h2.2.trans h1.2⟩
theorem xU {j:Nat} (hj:j<(ps[k]?.getD []).length):ng s e off ps x0 k (j+1)=
 if (bK (ng s e off ps x0 k j).1 (off+aB (ps.take k)+j)).1=true then ng s e off ps x0 k j
 else ((ng s e off ps x0 k j).1.set (off+aB (ps.take k)+j) (true,decide (j=0)&&(decide (0<k)||s),decide (j+1=(ps[k]?.getD []).length)&&(decide (k+1<ps.length)||e)),
  (ng s e off ps x0 k j).2.set (off+aB (ps.take k)+j) ((ps[k]?.getD [])[j]?.getD 0)):=by
 unfold ng;generalize ps[k]?.getD []=p at*;have hg:(iP p (decide (0<k)||s) (decide (k+1<ps.length)||e))[j]? =some ((true,decide (j=0)&&(decide (0<k)||s),decide (j+1=p.length)&&(decide (k+1<ps.length)||e)),p[j]?.getD 0):=by
  rw[vK,List.getElem?_eq_getElem hj];rfl
 rw[List.take_add_one,hg];simp only[Option.toList];rw[xQ,List.length_take,j6,Nat.min_eq_left (by omega)]
end
def Br (b:Nat) (vf vd:Value) (k:Nat) (_:Obj):Prop:=k=b∨vf.ownBlock=some k∨vd.ownBlock=some k
structure gT (w:World) (b:Nat) (vf vd:Value) (xc:Array Value) (sz:Int) (eF eu:Value) (fl:List Fl) (da:List UInt8) (W:World):Prop where
 blk:av W b 90 #[eF,eu,.int .i64 sz]
 fr:W.ownsRow 0 101 3 eF fl.length (jT fl)
 dr:W.ownsRow 0 5 1 eu da.length (bE da)
 bf:∀k,eF.ownBlock=some k→vf.ownBlock=some k∨w.heap.size≤k
 bd:∀k,eu.ownBlock=some k→vd.ownBlock=some k∨w.heap.size≤k
 kp:Kept (Br b vf vd) w W
 bp:av W w.heap.size 86 #[.pointer (some ⟨b,0,none⟩)]
 bx:av W (w.heap.size+1) 72 xc
 hb:b<w.heap.size
section
variable {w W W':World} {b:Nat} {vf vd eF eu:Value} {xc:Array Value} {sz:Int} {fl:List Fl} {da:List UInt8}
theorem gT.below (h:gT w b vf vd xc sz eF eu fl da W) (hb:Below W.heap.size W W'):gT w b vf vd xc sz eF eu fl da W':=
 ⟨h.blk.below hb h.blk.lt,aN h.fr fun k hk=>hb.block k (h.fr.lt k hk).2,aN h.dr fun k hk=>hb.block k (h.dr.lt k hk).2,h.bf,h.bd,h.kp.trans ((Kept.of_below hb).iJ fun k o ho hm=>by have:=lt_of_heap ho;omega),h.bp.below hb h.bp.lt,h.bx.below hb h.bx.lt,h.hb⟩
theorem gT.drew (h:gT w b vf vd xc sz eF eu fl da W):gT w b vf vd xc sz eF eu fl da W.drew:=h.below (Below.refl _ W).drew
theorem gT.alloc (h:gT w b vf vd xc sz eF eu fl da W) (o:Obj):gT w b vf vd xc sz eF eu fl da (W.alloc o):=h.below ((Below.refl _ W).alloc (Nat.le_refl _) o)
theorem dB {base size n g:Nat} {e t:TypeId} {v:Value} {xs:List Value} {cs:Array Value} (h:W.ownsRow base e size v n xs) (hg:av W g t cs) (hne:e≠t):some g≠v.ownBlock:=fun e'=>au h hg hne e'.symm
theorem iL {b1 b2 s1 s2 n1 n2:Nat} {e1 e2:TypeId} {v1 v2:Value} {x1 x2:List Value} (h1:W.ownsRow b1 e1 s1 v1 n1 x1) (h2:W.ownsRow b2 e2 s2 v2 n2 x2) (hne:e1≠e2):v1.ownBlock=none∨v1.ownBlock≠v2.ownBlock:=by
 cases hv:v1.ownBlock with
 |none=>exact .inl rfl
 |some k=>
  refine .inr fun e=> ?_
  obtain ⟨o1,a1,⟨c1,f1,rfl⟩,_⟩:=aQ h1 hv;obtain ⟨o2,a2,⟨c2,f2,e2⟩,_⟩:=aQ h2 e.symm;rw[a1] at a2;cases a2;cases e2;exact hne rfl
theorem dN {base size n g i:Nat} {e t:TypeId} {v:Value} {xs:List Value} {cs:Array Value} (h:W.ownsRow base e size v n xs) (hb:av W g t cs) (hne:e≠t) (u:Value):(W.setCell ⟨g,i,none⟩ u).ownsRow base e size v n xs:=
 aN h fun k hk=>Below.heap_setCell W ⟨g,i,none⟩ u k (fun ek=>by
  have e2:k=g:=ek;subst e2;exact au h hb hne hk)
theorem gT.flags (h:gT w b vf vd xc sz eF eu fl da W) {v2:Value} {JJ:List Fl} (hr:W'.ownsRow 0 101 3 v2 JJ.length (jT JJ)) (hg:W.grownBy W' eF.ownBlock) (hv:v2.ownBlock=eF.ownBlock∨v2.ownBlock=some W.heap.size):
 gT w b vf vd xc sz v2 eu JJ da (W'.setCell ⟨b,0,none⟩ v2):=by
 have hbW:=h.blk.grown hg (dB h.fr h.blk (by decide));have hsz:=h.kp.size;have hk2:Kept (Br b vf vd) w W':=h.kp.grown hg fun k e o ho=>by
  rcases h.bf k e with e2|e2
  ·exact .inr (.inl e2)
  ·have:=lt_of_heap ho;omega
 refine ⟨by simpa using hbW.aF 0 v2,?_,?_,fun k e=> ?_,h.bd,hk2.setCell (p:=⟨b,0,none⟩) (fun _ _=> .inl rfl) _,?_,?_,h.hb⟩
 ·exact dN (i:=0) hr hbW (by decide) _
 ·exact aD (i:=0) (h.dr.kept hg (iL h.dr h.fr (by decide))) hbW (by decide) _
 ·rcases hv with e2|e2
  ·exact h.bf k (e2 ▸ e)
  ·rw[e2] at e;cases e;exact .inr hsz
 ·exact (h.bp.grown hg (dB h.fr h.bp (by decide))).far (by have:=h.hb;simp;omega) _
 ·exact (h.bx.grown hg (dB h.fr h.bx (by decide))).far (by have:=h.hb;simp;omega) _
theorem gT.data (h:gT w b vf vd xc sz eF eu fl da W) {v2:Value} {JK:List UInt8} (hr:W'.ownsRow 0 5 1 v2 JK.length (bE JK)) (hg:W.grownBy W' eu.ownBlock) (hv:v2.ownBlock=eu.ownBlock∨v2.ownBlock=some W.heap.size):
 gT w b vf vd xc sz eF v2 fl JK (W'.setCell ⟨b,1,none⟩ v2):=by
 have hbW:=h.blk.grown hg (dB h.dr h.blk (by decide));have hsz:=h.kp.size;have hk2:Kept (Br b vf vd) w W':=h.kp.grown hg fun k e o ho=>by
  rcases h.bd k e with e2|e2
  ·exact .inr (.inr e2)
  ·have:=lt_of_heap ho;omega
 refine ⟨by simpa using hbW.aF 1 v2,?_,?_,h.bf,fun k e=> ?_,hk2.setCell (p:=⟨b,1,none⟩) (fun _ _=> .inl rfl) _,?_,?_,h.hb⟩
 ·exact dN (i:=1) (h.fr.kept hg (iL h.fr h.dr (by decide))) hbW (by decide) _
 ·exact aD (i:=1) hr hbW (by decide) _
 ·rcases hv with e2|e2
  ·exact h.bd k (e2 ▸ e)
  ·rw[e2] at e;cases e;exact .inr hsz
 ·exact (h.bp.grown hg (dB h.dr h.bp (by decide))).far (by have:=h.hb;simp;omega) _
 ·exact (h.bx.grown hg (dB h.dr h.bx (by decide))).far (by have:=h.hb;simp;omega) _
end
section
variable {w W W':World} {b:Nat} {vf vd eF eu:Value} {xc:Array Value} {sz:Int} {fl:List Fl} {da:List UInt8}
theorem mh {base size n:Nat} {e:TypeId} {v:Value} {xs:List Value} {row:Option Nat} (h:W.ownsRow base e size v n xs) (hg:W.grownBy W' row) (hr:∀r,row=some r→∃o:Obj,W.heap[r]? =some o∧o.isCells=false):W'.ownsRow base e size v n xs:=by
 refine h.kept hg ?_;cases hv:v.ownBlock with
 |none=>exact .inl rfl
 |some k=>
  refine .inr fun e2=> ?_
  obtain ⟨o,ho,hc⟩:=hr k e2.symm;obtain ⟨o2,ho2,⟨c1,f1,rfl⟩,_⟩:=aQ h hv;rw[ho2] at ho;cases ho;cases hc
theorem gT.quiet (h:gT w b vf vd xc sz eF eu fl da W) {row:Option Nat} (hg:W.grownBy W' row) (hr:∀r,row=some r→w.heap.size≤r∧∃o:Obj,W.heap[r]? =some o∧o.isCells=false):gT w b vf vd xc sz eF eu fl da W':=
 have hr':=fun r e=>(hr r e).2
 ⟨eO h.blk hg hr',mh h.fr hg hr',mh h.dr hg hr',h.bf,h.bd,h.kp.grown hg (fun k e o ho=>by have:=lt_of_heap ho;have:=(hr k e).1;omega),eO h.bp hg hr',eO h.bx hg hr',h.hb⟩
theorem gT.CU {gd n cd at_:Nat} (h:gT w b vf vd xc sz eF (.slice (some ⟨gd,0,none⟩) n cd) fl da W) (hn:da.length=n) (x:UInt8):gT w b vf vd xc sz eF (.slice (some ⟨gd,0,none⟩) n cd) fl (da.set at_ x) (W.setCell ⟨gd,at_,none⟩ (bv x)):=by
 subst hn;have hg:=ay W gd at_ (bv x);have hd:=h.dr;have hr:=(hd.stored at_ (bv x)).1;have hne:∀{g:Nat} {t:TypeId} {cs:Array Value},av W g t cs→5≠t→some g≠some gd:=fun hb hne=>dB hd hb hne
 refine ⟨h.blk.grown hg (hne h.blk (by decide)),h.fr.kept hg (iL h.fr hd (by decide)),?_,h.bf,h.bd,h.kp.grown hg (fun k e o ho=> ?_),h.bp.grown hg (hne h.bp (by decide)),h.bx.grown hg (hne h.bx (by decide)),h.hb⟩
 ·have e:bE (da.set at_ x)=(bE da).set at_ (bv x):=by simp[bE,List.map_set]
  rw[e,List.length_set];exact hr
 ·cases e;rcases h.bd gd rfl with e2|e2
  ·exact .inr (.inr e2)
  ·have:=lt_of_heap ho;omega
theorem gT.mq {gf n cf at_:Nat} (h:gT w b vf vd xc sz (.slice (some ⟨gf,0,none⟩) n cf) eu fl da W) (hn:fl.length=n) (hat:at_<n) (f:Fl):
 gT w b vf vd xc sz (.slice (some ⟨gf,0,none⟩) n cf) eu (fl.set at_ f) da (((W.setCell ⟨gf,at_*3,none⟩ (.bool f.1)).setCell ⟨gf,at_*3+1,none⟩ (.bool f.2.1)).setCell ⟨gf,at_*3+2,none⟩ (.bool f.2.2)):=by
 subst hn;have hd:=h.fr;have hr1:=(hd.stored (at_*3) (.bool f.1)).1;have hr2:=(hr1.stored (at_*3+1) (.bool f.2.1)).1;have hr3:=(hr2.stored (at_*3+2) (.bool f.2.2)).1;have hg:W.grownBy (((W.setCell ⟨gf,at_*3,none⟩ (.bool f.1)).setCell ⟨gf,at_*3+1,none⟩ (.bool f.2.1)).setCell ⟨gf,at_*3+2,none⟩ (.bool f.2.2)) (some gf):=
  ((ay W gf _ _).trans (ay _ gf _ _)).trans (ay _ gf _ _)
 have hne:∀{g:Nat} {t:TypeId} {cs:Array Value},av W g t cs→101≠t→some g≠some gf:=fun hb hne=>dB hd hb hne
 refine ⟨h.blk.grown hg (hne h.blk (by decide)),?_,h.dr.kept hg (iL h.dr hd (by decide)),h.bf,h.bd,h.kp.grown hg (fun k e o ho=> ?_),h.bp.grown hg (hne h.bp (by decide)),h.bx.grown hg (hne h.bx (by decide)),h.hb⟩
 ·rw[uD _ _ _ hat] at hr3;rw[List.length_set];exact hr3
 ·cases e;rcases h.bf gf rfl with e2|e2
  ·exact .inr (.inl e2)
  ·have:=lt_of_heap ho;omega
end
section
variable {w W W':World} {b:Nat} {vf vd eF eu:Value} {xc:Array Value} {sz:Int} {fl:List Fl} {da:List UInt8}
theorem gT.EM (h:gT w b vf vd xc sz eF eu fl da W) {D:Nat} {o:Obj} (o':Obj) (hD:W.heap[D]? =some o) (hc:o.isCells=false) (hDl:w.heap.size≤D):gT w b vf vd xc sz eF eu fl da (W.putObj D o'):=
 h.quiet (grownBy_putObj' W D o') (fun r e=>by cases e;exact ⟨hDl,o,hD,hc⟩)
theorem gT.JL (h:gT w b vf vd xc sz eF eu fl da W) (z:Int):gT w b vf vd xc z eF eu fl da (W.setCell ⟨b,2,none⟩ (.int .i64 z)):=
 ⟨by simpa using h.blk.aF 2 (.int .i64 z),dN h.fr h.blk (by decide) _,dN h.dr h.blk (by decide) _,h.bf,h.bd,h.kp.setCell (p:=⟨b,2,none⟩) (fun _ _=> .inl rfl) _,h.bp.far (by have:=h.hb;simp;omega) _,h.bx.far (by have:=h.hb;simp;omega) _,h.hb⟩
end
def Aa (b:Nat) (vf vd:Value) (bi Z:Nat) (j:Nat) (_:Obj):Prop:=j=b∨vf.ownBlock=some j∨vd.ownBlock=some j∨j=bi∨Z≤j
structure JM (w:World) (b:Nat) (vf vd:Value) (xc:Array Value) (sz:Int) (qp qw:Value) (s e:Bool) (off:Nat) (ps:List (List UInt8)) (x0:List Fl × List UInt8) (bi:Nat) (w5:World) (k:Nat) (W:World):Prop where
 t:gT w b vf vd xc sz qp qw (zh s e off ps x0 k).1 (zh s e off ps x0 k).2 W
 di:av W bi 3 #[.int .i64 k]
 kp:Kept (Aa b qp qw bi w5.heap.size) w5 W
theorem Ab (w:World) (b:Nat) (vf vd:Value) (xc:Array Value) (sz:Int) (qp qw:Value) (s e:Bool) (off:Nat) (ps:List (List UInt8)) (x0:List Fl × List UInt8) (bi:Nat) (w5:World) (hw:w.heap.size≤w5.heap.size):
 OwnFrom w5.heap.size (JM w b vf vd xc sz qp qw s e off ps x0 bi w5):=fun k X Y row hs hg hr=>by
 have hr':∀r,row=some r→∃o:Obj,X.heap[r]? =some o∧o.isCells=false:=fun r e=>(hr r e).2
 exact ⟨hs.t.quiet hg fun r e=>⟨by have:=(hr r e).1;omega,(hr r e).2⟩,eO hs.di hg hr',hs.kp.trans ((Kept.refl _ X).grown hg (fun j e _ _=> .inr (.inr (.inr (.inr (hr j e).1)))))⟩
structure q9 (w:World) (b:Nat) (vf vd:Value) (xc:Array Value) (sz:Int) (qp qw:Value) (fl:List Fl) (da:List UInt8) (bi:Nat) (w5 W0:World) (k:Nat) (W:World):Prop where
 t:gT w b vf vd xc sz qp qw fl da W
 di:av W bi 3 #[.int .i64 k]
 kp:Kept (Aa b qp qw bi w5.heap.size) w5 W
 k2:Kept (Aa b qp qw bi w5.heap.size) W0 W
 kf:KeepsFrom w5.heap.size W0 W
section
variable {w W W' w5 W0:World} {b:Nat} {vf vd eF eu:Value} {xc:Array Value} {sz:Int} {fl:List Fl} {da:List UInt8} {bi k:Nat}
theorem q9.below (h:q9 w b vf vd xc sz eF eu fl da bi w5 W0 k W) (hb:Below W.heap.size W W') (_hz:w5.heap.size≤W.heap.size):q9 w b vf vd xc sz eF eu fl da bi w5 W0 k W':=
 have hk:Kept (Aa b eF eu bi w5.heap.size) W W':=(Kept.of_below hb).iJ fun k o ho hm=>by have:=lt_of_heap ho;omega
 ⟨h.t.below hb,h.di.below hb h.di.lt,h.kp.trans hk,h.k2.trans hk,h.kf.trans ⟨hb.size,fun k o _ ho _=>(hb.block k (lt_of_heap ho)).trans ho⟩⟩
theorem q9.drew (h:q9 w b vf vd xc sz eF eu fl da bi w5 W0 k W) (hz:w5.heap.size≤W.heap.size):q9 w b vf vd xc sz eF eu fl da bi w5 W0 k W.drew:=h.below (Below.refl _ W).drew hz
theorem q9.CU {gd n cd at_:Nat} (h:q9 w b vf vd xc sz eF (.slice (some ⟨gd,0,none⟩) n cd) fl da bi w5 W0 k W) (hn:da.length=n) (x:UInt8):q9 w b vf vd xc sz eF (.slice (some ⟨gd,0,none⟩) n cd) fl (da.set at_ x) bi w5 W0 k (W.setCell ⟨gd,at_,none⟩ (bv x)):=by
 have hk:Kept (Aa b eF (.slice (some ⟨gd,0,none⟩) n cd) bi w5.heap.size) W (W.setCell ⟨gd,at_,none⟩ (bv x)):=(Kept.refl _ W).setCell (p:=⟨gd,at_,none⟩) (fun _ _=> .inr (.inr (.inl rfl))) _;have hd:=h.t.dr;rw[hn] at hd;exact ⟨h.t.CU hn x,h.di.grown (ay W gd at_ (bv x)) (dB hd h.di (by decide)),h.kp.trans hk,h.k2.trans hk,h.kf.trans ((KeepsOthers.setCell _ _ _).from _)⟩
theorem q9.mq {gf n cf at_:Nat} (h:q9 w b vf vd xc sz (.slice (some ⟨gf,0,none⟩) n cf) eu fl da bi w5 W0 k W) (hn:fl.length=n) (hat:at_<n) (f:Fl):
 q9 w b vf vd xc sz (.slice (some ⟨gf,0,none⟩) n cf) eu (fl.set at_ f) da bi w5 W0 k (((W.setCell ⟨gf,at_*3,none⟩ (.bool f.1)).setCell ⟨gf,at_*3+1,none⟩ (.bool f.2.1)).setCell ⟨gf,at_*3+2,none⟩ (.bool f.2.2)):=by
 have hM:∀o:Obj,Aa b (.slice (some ⟨gf,0,none⟩) n cf) eu bi w5.heap.size gf o:=fun _=> .inr (.inl rfl)
 have hk:Kept (Aa b (.slice (some ⟨gf,0,none⟩) n cf) eu bi w5.heap.size) W (((W.setCell ⟨gf,at_*3,none⟩ (.bool f.1)).setCell ⟨gf,at_*3+1,none⟩ (.bool f.2.1)).setCell ⟨gf,at_*3+2,none⟩ (.bool f.2.2)):=
  (((Kept.refl _ W).setCell (p:=⟨gf,_,none⟩) (fun _ _=>hM _) _).setCell (p:=⟨gf,_,none⟩) (fun _ _=>hM _) _).setCell (p:=⟨gf,_,none⟩) (fun _ _=>hM _) _
 have hd:=h.t.fr;rw[hn] at hd;have hg:W.grownBy (((W.setCell ⟨gf,at_*3,none⟩ (.bool f.1)).setCell ⟨gf,at_*3+1,none⟩ (.bool f.2.1)).setCell ⟨gf,at_*3+2,none⟩ (.bool f.2.2)) (some gf):=
  ((ay W gf _ _).trans (ay _ gf _ _)).trans (ay _ gf _ _)
 exact ⟨h.t.mq hn hat f,h.di.grown hg (dB hd h.di (by decide)),h.kp.trans hk,h.k2.trans hk,h.kf.trans ((((KeepsOthers.setCell _ _ _).from _).trans ((KeepsOthers.setCell _ _ _).from _)).trans ((KeepsOthers.setCell _ _ _).from _))⟩
theorem q9.next (h:q9 w b vf vd xc sz eF eu fl da bi w5 W0 k W) (hbi:b≠bi) (h1:bi≠w.heap.size) (h2:bi≠w.heap.size+1) (hw:w.heap.size≤bi):q9 w b vf vd xc sz eF eu fl da bi w5 W0 (k+1) (W.setCell ⟨bi,0,none⟩ (.int .i64 ((k+1:Nat):Int))):=by
 have hk:Kept (Aa b eF eu bi w5.heap.size) W (W.setCell ⟨bi,0,none⟩ (.int .i64 ((k+1:Nat):Int))):=(Kept.refl _ W).setCell (p:=⟨bi,0,none⟩) (fun _ _=> .inr (.inr (.inr (.inl rfl)))) _;refine ⟨⟨h.t.blk.far (by simpa using hbi) _,dN h.t.fr h.di (by decide) _,dN h.t.dr h.di (by decide) _,h.t.bf,h.t.bd,h.t.kp.setCell (p:=⟨bi,0,none⟩) (fun o ho=>by have:=lt_of_heap ho;simp at this;omega) _,h.t.bp.far (by simpa using fun e=>h1 e.symm) _,h.t.bx.far (by simpa using fun e=>h2 e.symm) _,h.t.hb⟩,?_,h.kp.trans hk,h.k2.trans hk,h.kf.trans ((KeepsOthers.setCell _ _ _).from _)⟩;simpa using h.di.aF 0 (.int .i64 ((k+1:Nat):Int))
end
theorem rf (k:Nat):(Builtin.zeroCells #[.bool false,.bool false,.bool false] k).toList=jT (List.replicate k CQ):=by
 apply List.ext_getElem?;intro j;have hl:(jT (List.replicate k CQ)).length=k*3:=by rw[tC,List.length_replicate]
 rcases Nat.lt_or_ge j (k*3) with hj|hj
 ·have hr:(List.replicate k CQ)[j/3]? =some CQ:=by rw[List.getElem?_replicate,if_pos (by omega)]
  obtain ⟨g1,g2,g3⟩:=kX _ _ _ hr;have hm:j%3=0∨j%3=1∨j%3=2:=by omega
  have he:(Builtin.zeroCells #[.bool false,.bool false,.bool false] k).toList[j]? =some (.bool false):=by
   simp only[Builtin.zeroCells,Array.getElem?_toList,Array.getElem?_map];rw[Array.getElem?_eq_getElem (by simpa using hj)];simp only[Array.getElem_range,Option.map_some,List.size_toArray,List.length_cons,List.length_nil];rcases hm with h|h|h<;>simp[h]
  rw[he];rcases hm with h|h|h
  ·rw[show j=j/3*3 by omega,g1];rfl
  ·rw[show j=j/3*3+1 by omega,g2];rfl
  ·rw[show j=j/3*3+2 by omega,g3];rfl
 ·rw[List.getElem?_eq_none (by rw[Array.length_toList,size_zeroCells];simpa using hj),List.getElem?_eq_none (by omega)]
theorem rq (k:Nat):(Builtin.zeroCells #[.int .u8 0] k).toList=bE (List.replicate k 0):=by
 apply List.ext_getElem?;intro j;rcases Nat.lt_or_ge j k with hj|hj
 ·simp only[Builtin.zeroCells,Array.getElem?_toList,Array.getElem?_map];rw[Array.getElem?_eq_getElem (by simpa using hj)];simp[bE,hj,bv,Nat.mod_one]
 ·rw[List.getElem?_eq_none (by rw[Array.length_toList,size_zeroCells];simpa using hj),List.getElem?_eq_none (by simpa[bE] using hj)]
theorem Ac:(Tryz.prog.info? 101).map (fun i=>(i.zero,i.size,i.bytes))=some (some (.agg #[.bool false,.bool false,.bool false]),3,3):=by kernel_rfl
theorem xV:∃i,Tryz.prog.info? 101=some i∧i.zero=some (.agg #[.bool false,.bool false,.bool false])∧i.size=3∧i.bytes=3:=by
 have h:=Ac;cases hi:Tryz.prog.info? 101 with
 |none=>rw[hi] at h;cases h
 |some i=>
  rw[hi] at h;simp only[Option.map_some,Option.some.injEq,Prod.mk.injEq] at h;exact ⟨i,rfl,h.1,h.2.1,h.2.2⟩
theorem xW:Tryz.prog.underlying 88=some (.slice 101):=by kernel_rfl
end
section
open Go.RowKit Go.Shelf
attribute [local go_sem] Oper.semAt_some
def kZ (l:List (Nat × Nat)) (k:Nat):Array Value:= #[.int .i64 ((l[k]?.getD (0,0)).1:Nat),.int .i64 ((l[k]?.getD (0,0)).2:Nat)]
def dD (l:List Fl) (i fr k:Nat):Prop:=∃pre,aY l 0 0=pre++aY (l.drop i) i fr∧pre.length=k
theorem dD.start (l:List Fl):dD l 0 0 0:=⟨[],rfl,rfl⟩
theorem drop_cons {l:List Fl} {i:Nat} (h:i<l.length):l.drop i=bK l i::l.drop (i+1):=by
 rw[List.drop_eq_getElem_cons h];unfold bK;rw[List.getElem?_eq_getElem h];rfl
theorem dD.miss {l:List Fl} {i fr k:Nat} (h:dD l i fr k) (hi:i<l.length) (hf:(bK l i).1=false):dD l (i+1) fr k:=by
 obtain ⟨pre,e,hk⟩:=h;rw[drop_cons hi,aY,if_pos hf] at e;exact ⟨pre,e,hk⟩
theorem dD.pass {l:List Fl} {i fr k:Nat} (h:dD l i fr k) (hi:i<l.length) (hf:(bK l i).1=true) (hfr:¬fr<i):dD l (i+1) (i+1) k:=by
 obtain ⟨pre,e,hk⟩:=h;rw[drop_cons hi,aY,if_neg (by rw[hf];simp),if_neg hfr] at e;exact ⟨pre,e,hk⟩
theorem dD.give {l:List Fl} {i fr k:Nat} (h:dD l i fr k) (hi:i<l.length) (hf:(bK l i).1=true) (hfr:fr<i):dD l (i+1) (i+1) (k+1)∧(aY l 0 0)[k]? =some (fr,i-1):=by
 obtain ⟨pre,e,hk⟩:=h;rw[drop_cons hi,aY,if_neg (by rw[hf];simp),if_pos hfr] at e;refine ⟨⟨pre++ [(fr,i-1)],by rw[e];simp,by simp[hk]⟩,?_⟩;rw[e,List.getElem?_append_right (by omega),hk,Nat.sub_self];rfl
theorem dD.last {l:List Fl} {fr k:Nat} (h:dD l l.length fr k) (hfr:fr<l.length):(aY l 0 0)[k]? =some (fr,l.length-1)∧(aY l 0 0).length=k+1:=by
 obtain ⟨pre,e,hk⟩:=h;rw[List.drop_length,aY,if_pos hfr] at e;constructor
 ·rw[e,List.getElem?_append_right (by omega),hk,Nat.sub_self];rfl
 ·rw[e,List.length_append,hk];rfl
theorem dD.none {l:List Fl} {fr k:Nat} (h:dD l l.length fr k) (hfr:¬fr<l.length):(aY l 0 0).length=k:=by
 obtain ⟨pre,e,hk⟩:=h;rw[List.drop_length,aY,if_neg hfr,List.append_nil] at e;rw[e,hk]
theorem mr {L:List (Nat × Nat)} {k a b:Nat} (h:L[k]? =some (a,b)):kZ L k= #[.int .i64 (a:Nat),.int .i64 (b:Nat)]∧k<L.length:=by
 unfold kZ;rw[h];exact ⟨rfl,(List.getElem?_eq_some_iff.1 h).1⟩
set_option maxRecDepth 100000 in
set_option maxHeartbeats 2000000 in
theorem vR (n:Nat) (hn:1≤n) (gv b:Nat) (A:Option Addr) (m c:Nat) (l:List Fl) (hm:m≤100000) (hlm:l.length=m) (Q:Nat→Obj→Prop) (w:World)
 (hg:av w gv 86 #[.pointer (some ⟨b,0,none⟩)]) (_Pn:b<w.heap.size) (hb:∀W,Below w.heap.size w W→∀X,Kept Q W X→X.cell? ⟨b,0,none⟩=some (.slice A m c)∧fA X A m c l) (hQ:¬Q gv (.cells #[.pointer (some ⟨b,0,none⟩)] 86 (0,0))):
 sS Fence.wide n Tryz.prog 137 #[.pointer (some ⟨gv,0,none⟩)] (kZ (aY l 0 0)) (aY l 0 0).length (Kept Q) w:=fun lb J W hW _ hY h0=>by
 have hg':=hg.below hW hg.lt;have HB:=Lib.hid (hb W hW);have HY:=Lib.hid hY;clear hY hb;refine callsIn_of_wp Tryz.func137 rfl trivial ?_ rfl;simp only[Tryz.ntmps137,List.size_toArray,List.length_cons,List.length_nil,Nat.reduceAdd,Nat.reduceSub,Array.replicate_succ,Array.replicate_zero,List.push_toArray,List.append_toArray,List.nil_append,List.cons_append];have hcw:=hg'.cell 0;simp at hcw;obtain ⟨hc0,CV⟩:=HB.out W (Kept.refl _ _);refine dW ?_
 gi_wp2
 refine wpIn_label ?_
 gi_wp2
 gi_loopw [3,11] (fun s3 i wr=>∃i' fr k:Nat,i'≤m+1∧i= .int .i64 i'∧s3= .int .i64 fr∧fr≤i'∧((i'≤m∧dD l i' fr k)∨(i'=m+1∧k=(aY l 0 0).length))∧J k wr∧Kept Q W wr) (fun _ i _=>m+1-(intOf i).toNat)
 case atStart=>exact ⟨0,0,0,Nat.zero_le _,by simp,by simp,Nat.le_refl _,.inl ⟨Nat.zero_le _,dD.start l⟩,h0,Kept.refl _ _⟩
 case round=>
  obtain ⟨i',fr,k,hi1,rfl,rfl,hfr,hat,hJs,hnx⟩:=hrel;clear hc0 CV;obtain ⟨hc0,CV⟩:=HB.out wr hnx;have hgr:=hg'.kept hnx hQ;have hcg:=hgr.cell 0;simp at hcg;rcases Nat.lt_trichotomy i' m with hlt|heq|hgt
  ·have kQ:dD l i' fr k:=by rcases hat with h|h;exact h.2;omega
   have hhas:Calls Tryz.prog 85 #[.slice A m c,.int .i64 (i':Nat),.int .i64 0] wr fun e w'=>e= .returned (.bool (bK l i').1)∧wr=w':=l8 CV i' (by omega) 0 (by omega)
   clear hat;cases hf:(bK l i').1 with
   |false=>
    rw[hf] at hhas;have nP:=Lib.hid hhas;have HF:=Lib.hid hf;have HAT:=Lib.hid kQ;clear hhas hf kQ
    gi_wp2_with (refine ⟨trivial,?_⟩;refine ((callsIn_wide (n:=n-1)).2 nP.out).mono ?_;rintro e1 w1 ⟨rfl,rfl⟩)
    exact ⟨⟨i'+1,fr,k,by omega,by go_num,rfl,by omega,.inl ⟨by omega,HAT.out.miss (by omega) HF.out⟩,hJs,hnx⟩,by simp[intOf]<;>omega⟩
   |true=>
    rw[hf] at hhas;have nP:=Lib.hid hhas;by_cases hfi:fr<i'
    ·obtain ⟨h5,h6⟩:=kQ.give (by omega) hf hfi;obtain ⟨h7,h8⟩:=mr h6;have yZ:=HY.out k wr h8 hJs;rw[h7,show ((i'-1:Nat):Int)=(i':Int)-1 by omega] at yZ;obtain ⟨fn,tmps,assign,body,hy,hR⟩:=yZ;have H5:=Lib.hid h5;clear hhas hf kQ h5 h6 h7 h8
     gi_wp2_with (refine ⟨trivial,?_⟩;refine ((callsIn_wide (n:=n-1)).2 nP.out).mono ?_;rintro e1 w1 ⟨rfl,rfl⟩)
     refine hR.mono ?_;rintro e W3 ⟨rfl,hJ3,hk3⟩
     gi_wp2_with fail
     exact ⟨⟨i'+1,i'+1,k+1,by omega,by go_num,by go_num,Nat.le_refl _,.inl ⟨by omega,H5.out⟩,hJ3,hnx.trans hk3⟩,by simp[intOf]<;>omega⟩
    ·have h5:=kQ.pass (by omega) hf hfi;have H5:=Lib.hid h5;clear hhas hf kQ h5
     gi_wp2_with (refine ⟨trivial,?_⟩;refine ((callsIn_wide (n:=n-1)).2 nP.out).mono ?_;rintro e1 w1 ⟨rfl,rfl⟩)
     refine ⟨fun f h=>(by cases h),?_⟩
     gi_wp2_with fail
     exact ⟨⟨i'+1,i'+1,k,by omega,by go_num,by go_num,Nat.le_refl _,.inl ⟨by omega,H5.out⟩,hJs,hnx⟩,by simp[intOf]<;>omega⟩
  ·subst heq;have kQ:dD l i' fr k:=by rcases hat with h|h;exact h.2;omega
   clear hat;rw[←hlm] at kQ;by_cases hfi:fr<i'
   ·obtain ⟨h5,h6⟩:=kQ.last (by omega);obtain ⟨h7,h8⟩:=mr h5;have yZ:=HY.out k wr h8 hJs;rw[h7,show ((l.length-1:Nat):Int)=(i':Int)-1 by omega] at yZ;obtain ⟨fn,tmps,assign,body,hy,hR⟩:=yZ;have H6:=Lib.hid h6;clear kQ h5 h6 h7 h8
    gi_wp2_with fail
    refine ⟨trivial,?_⟩
    gi_wp2_with fail
    refine hR.mono ?_;rintro e W3 ⟨rfl,hJ3,hk3⟩
    gi_wp2_with fail
    exact ⟨⟨i'+1,i'+1,k+1,by omega,by go_num,by go_num,Nat.le_refl _,.inr ⟨rfl,H6.out.symm⟩,hJ3,hnx.trans hk3⟩,by simp[intOf]<;>omega⟩
   ·have h6:=kQ.none (by omega);have H6:=Lib.hid h6;clear kQ h6
    gi_wp2_with fail
    refine ⟨trivial,?_⟩
    gi_wp2_with fail
    refine ⟨fun f h=>(by cases h),?_⟩
    gi_wp2_with fail
    exact ⟨⟨i'+1,i'+1,k,by omega,by go_num,by go_num,Nat.le_refl _,.inr ⟨rfl,H6.out.symm⟩,hJs,hnx⟩,by simp[intOf]<;>omega⟩
  ·have e:i'=m+1:=by omega
   have ek:k=(aY l 0 0).length:=by rcases hat with h|h;omega;exact h.2
   subst e;have xh:J (aY l 0 0).length wr:=by rw[←ek];exact hJs
   clear ek hJs hat
   gi_wp2
   rw[Exit.noGoto_normal]
   go_end0
   exact ⟨⟨_,rfl⟩,xh⟩
end
section
open Go.RowKit
section
variable {w w':World} {base:Nat} {e:TypeId} {v:Value} {n:Nat} {xs:List Value}
variable {P:Program}
end
end
section
open Go.RowKit
def MJ:Value→Option Addr
 | .slice A _ _=>A
 |_=>none
section
variable {w w':World} {B n c:Nat} {A:Option Addr} {xs vs:List Value} {ps:List (List UInt8)}
theorem Sl.stay (h:Sl w w.heap.size A n c xs) (hk:∀ad,A=some ad→w'.heap[ad.block]? =w.heap[ad.block]?):Sl w' w'.heap.size A n c xs:=
 ⟨h.len,h.cap,h.mx,fun hn=>by
  obtain ⟨ad,e,hb,hc⟩:=h.at_ hn;have hs:=hk ad e;refine ⟨ad,e,?_,fun j u hu=>(World.cell?_of_block (by rw[block_add];exact hs)).trans (hc j u hu)⟩;have:w.heap[ad.block]? =some w.heap[ad.block]:=Array.getElem?_eq_getElem hb;rw[this] at hs;exact lt_of_heap hs⟩
theorem eH.stay (h:eH w w.heap.size A n c vs ps) (hk:∀ad,A=some ad→w'.heap[ad.block]? =w.heap[ad.block]?) (hv:∀(i:Nat) v ad,vs[i]? =some v→MJ v=some ad→w'.heap[ad.block]? =w.heap[ad.block]?):eH w' w'.heap.size A n c vs ps:=by
 refine ⟨h.sl.stay hk,h.len,fun i p hi=> ?_⟩;obtain ⟨A',c',e,hs⟩:=h.each i p hi;exact ⟨A',c',e,hs.stay fun ad ea=>hv i _ ad e (by rw[ea];rfl)⟩
end
section
variable {w w':World} {D F:Nat→Prop} {g:Nat} {c:Cf} {st:Sd} {vq vo:Value} {vs os:List Value}
end
end
section

end
section

end
section
open Go.RowKit Go.Shelf
attribute [local go_sem] Oper.semAt_some
theorem Ae (n:Int):bits .and .i64 n 1023=n%1024:=by
 have h127:(BitVec.ofInt 64 1023).toNat=2 ^ 10-1:=by decide
 have key:(BitVec.ofInt 64 n&&& BitVec.ofInt 64 1023).toNat=(n%((2 ^ 64:Nat):Int)).toNat%2 ^ 10:=by
  rw[BitVec.toNat_and,BitVec.toNat_ofInt,h127,Nat.and_two_pow_sub_one_eq_mod]
 show IntKind.i64.wrap ((BitVec.ofInt 64 n&&& BitVec.ofInt 64 1023).toNat:Nat)=n%1024
 rw[key,IntKind.wrap_i64];omega
section
variable {D F:Nat→Prop} {g:Nat} {c:Cf} {st:Sd} {vq vo:Value} {vs os:List Value} {w:World}
end
end
section
open Go.RowKit Go.Shelf
attribute [local go_sem] Oper.semAt_some
theorem fK {fn:Func} {p:Tmp} {ty:TypeId} (h:fn.results= #[.cell p ty]) (tmps:Array Value) (P:Program) (w:World):
 (results fn tmps).run P w=((asAddr (tmps.getD p undef)).run P w).andThen fun a w₁=>(loadVar ty a).run P w₁:=by
 simp only[results,h];simp[Sem.run_bind,Result.andThen]
section
variable {D F:Nat→Prop} {g:Nat} {c:Cf} {st:Sd} {vq vo:Value} {vs os:List Value} {w:World}
end
end
section
open Go.RowKit Go.Shelf
attribute [local go_sem] Oper.semAt_some
theorem vS (b:Nat) (w:World):
 Calls Tryz.prog 92 #[.pointer (some ⟨b,0,none⟩)] w fun e w'=>e= .returned (.func (.func 137) #[] #[.pointer (some ⟨w.heap.size,0,none⟩)])∧w'=w.alloc (.cells #[.pointer (some ⟨b,0,none⟩)] 86):=by
 go_enter Tryz.func92,Tryz.ntmps92;go_wp2;go_ret;exact ⟨rfl,rfl⟩
def sj (x:Nk):Array Value:= #[.int .i64 x.sn,.bool x.part,.int .i64 x.fr,.int .i64 x.lt]
theorem tK (sn:Int) (gs:Nat) (x:Nat × Nat) (w:World) (h:w.cell? ⟨gs,0,none⟩=some (.int .i64 sn)) (hg:gs<w.heap.size):
 Calls Tryz.prog 93 #[.int .i64 (x.1:Nat),.int .i64 (x.2:Nat),.pointer (some ⟨gs,0,none⟩)] w fun e w'=>e= .returned (.agg (sj ⟨sn,true,(x.1:Nat),(x.2:Nat)⟩))∧Below w.heap.size w w':=by
 have hz:=av.new w 116 (sj ⟨sn,true,(x.1:Nat),(x.2:Nat)⟩);have HZ:=Lib.hid hz;clear hz;go_enter Tryz.func93,Tryz.ntmps93;go_wp2;refine bodyPost_ret (v:= .agg (sj ⟨sn,true,(x.1:Nat),(x.2:Nat)⟩)) ?_ rfl ⟨rfl,(Below.refl _ w).alloc (Nat.le_refl _) _⟩;rw[fK rfl];have c0:=HZ.out.cell 0;have c1:=HZ.out.cell 1;have c2:=HZ.out.cell 2;have c3:=HZ.out.cell 3;simp[sj] at c0 c1 c2 c3;go_simp;rfl
end
section
open Go.RowKit
attribute [local go_sem] Oper.semAt_some
set_option maxHeartbeats 400000 in
theorem nQ (b:Nat) (dF:List Value) (bs:List Bool) (Inv:World→Prop) (w:World) (hlen:bs.length=dF.length) (hsm:dF.length≤1000) (hI:∀W,Inv W→av W b 27 dF.toArray)
 (hcall:∀(i:Nat) (fv:Value) (x:Bool) (W:World),dF[i]? =some fv→bs[i]? =some x→(∀y∈bs.take i,y=true)→Inv W→Calls Tryz.prog 165 #[fv] W fun e W'=>e= .returned (.bool (!x))∧Inv W')
 (h0:Inv w):Calls Tryz.prog 174 #[.slice (some ⟨b,0,none⟩) dF.length dF.length,.func (.func 165) #[] #[]] w (nZ bs Inv):=by
 have HC:=Lib.hid hcall;have HI:=Lib.hid hI;have HL:=Lib.hid hlen;clear hcall hI hlen;obtain ⟨N,hN⟩:∃N,N=dF.length:=⟨_,rfl⟩
 rw[←hN] at hsm ⊢;have HN:=Lib.hid hN;clear hN;go_enter Tryz.func174,Tryz.ntmps174;go_wp2
 go_loopw [8] (fun i wr=>∃k:Nat,k≤N∧i= .int .i64 k∧(∀y∈bs.take k,y=true)∧Inv wr) (fun i _=>N-(intOf i).toNat)
 case atStart=>exact ⟨0,Nat.zero_le _,rfl,by simp,h0⟩
 case round=>
  clear h0;obtain ⟨k,hk,rfl,hall,hinv⟩:=hrel;have HA:=Lib.hid hall;clear hall;by_cases hlt:k<N
  ·obtain ⟨fv,bS⟩:∃fv,dF[k]? =some fv:=⟨_,List.getElem?_eq_getElem (by rw[←HN.out];exact hlt)⟩
   obtain ⟨x,hx⟩:∃x,bs[k]? =some x:=⟨_,List.getElem?_eq_getElem (by rw[HL.out,←HN.out];exact hlt)⟩
   have hcl:=HC.out k fv x wr bS hx HA.out hinv;have hcell:=(HI.out wr hinv).cell k;rw[List.getElem?_toArray,bS] at hcell;have qI:=Lib.hid hcl;have HX:=Lib.hid hx;clear hcl bS hx;cases x with
   |true=>
    go_wp2_with (go_at_call 165;refine qI.out.mono ?_;rintro e w' ⟨rfl,hi'⟩)
    go_roundw
    case rel=>exact ⟨k+1,by omega,by go_num,by
     intro y hy;rw[List.take_add_one,HX.out,List.mem_append] at hy;rcases hy with hy|hy
     ·exact HA.out y hy
     ·simpa using hy,hi'⟩
    case measure=>simp[intOf];omega
   |false=>
    go_wp2_with (go_at_call 165;refine qI.out.mono ?_;rintro e w' ⟨rfl,hi'⟩);go_ret;refine ⟨.inl ⟨k,rfl,?_⟩,hi'⟩;rw[List.all_eq_false];exact ⟨false,List.mem_of_getElem? HX.out,by simp⟩
  ·have e:bs.take k=bs:=List.take_of_length_le (by rw[HL.out,←HN.out];omega);have hA:=HA.out;rw[e] at hA;have uY:=Lib.hid hA;clear hA e;go_wp2;go_ret;exact ⟨.inr ⟨rfl,by rw[List.all_eq_true];exact uY.out⟩,hinv⟩
theorem ko (b:Nat) (dF:List Value) (bs:List Bool) (Inv:World→Prop) (w:World)
 (h:Calls Tryz.prog 174 #[.slice (some ⟨b,0,none⟩) dF.length dF.length,.func (.func 165) #[] #[]] w (nZ bs Inv)):
 Calls Tryz.prog 152 #[.slice (some ⟨b,0,none⟩) dF.length dF.length,.func (.func 165) #[] #[]] w fun e w'=>e= .returned (.bool (!bs.all id))∧Inv w':=by
 have H:=Lib.hid h;clear h;go_enter Tryz.func152,Tryz.ntmps152;go_wp2_with fail;refine H.out.mono ?_;rintro e w' ⟨⟨k,rfl,ha⟩|⟨rfl,ha⟩,hi⟩
 ·have HA:=Lib.hid ha;clear ha;go_wp2;go_ret;exact ⟨aG (by rw[HA.out];rfl),hi⟩
 ·have HA:=Lib.hid ha;clear ha;go_wp2;go_ret;exact ⟨aG (by rw[HA.out];rfl),hi⟩
theorem xX (b:Nat) (dF:List Value) (bs:List Bool) (Inv:World→Prop) (w:World)
 (h:Calls Tryz.prog 152 #[.slice (some ⟨b,0,none⟩) dF.length dF.length,.func (.func 165) #[] #[]] w fun e w'=>e= .returned (.bool (!bs.all id))∧Inv w'):
 Calls Tryz.prog 132 #[.slice (some ⟨b,0,none⟩) dF.length dF.length] w fun e w'=>e= .returned (.bool (bs.all id))∧Inv w':=by
 have H:=Lib.hid h;clear h;go_enter Tryz.func132,Tryz.ntmps132;go_wp2_with fail;refine H.out.mono ?_;rintro e w' ⟨rfl,hi⟩;go_wp2;go_ret;exact ⟨aG (by simp),hi⟩
def iM (n:Nk):Array Value:= #[.int .i64 n.sn,.bool n.part,.int .i64 n.fr,.int .i64 n.lt]
theorem av.oC {w:World} {g:Nat} {t:TypeId} {x y z u:Value} (b:av w g t #[x,y,z,u]):w.cell? ⟨g,0,none⟩=some x∧w.cell? ⟨g,1,none⟩=some y∧w.cell? ⟨g,2,none⟩=some z∧w.cell? ⟨g,3,none⟩=some u:=
 ⟨b.cell 0,b.cell 1,b.cell 2,b.cell 3⟩
theorem vT (a b:Int):bits .and .i64 (IntKind.i64.wrap (a-b)) 1023=(a-b)%1024:=by
 rw[Ae,IntKind.wrap_i64];omega
section
variable (w:World)
theorem oD (aH sn:Int):Calls Tryz.prog 135 #[.int .i64 aH,.int .i64 sn] w fun e w'=>e= .returned (.int .i64 (dG aH sn))∧w=w':=by
 go_enter Tryz.func135,Tryz.ntmps135;go_wp2;go_ret;exact ⟨oZ (by rw[←IntWalk.i64_left];exact vT aH sn),rfl⟩
variable (bn ba:Nat) (aH:Int) (n:Nk)
theorem xY (hb:av w bn 116 (iM n)):Calls Tryz.prog 130 #[.pointer (some ⟨bn,0,none⟩)] w fun e w'=>e= .returned (.bool (decide (n.fr=0)&&decide (n.lt=0)))∧w=w':=by
 obtain ⟨x0,x1,x2,x3⟩:=hb.oC;by_cases h0:n.fr=0
 ·have e0:(n.fr==0)=true:=by simp[h0]
  have e1:(n.lt==0)=decide (n.lt=0):=by rw[Bool.eq_iff_iff];simp
  rw[decide_eq_true h0];generalize decide (n.lt=0)=d at*;have H0:=Lib.hid h0;clear h0;go_enter Tryz.func130,Tryz.ntmps130;go_wp2;go_ret;exact ⟨rfl,rfl⟩
 ·have e0:(n.fr==0)=false:=by simp[h0]
  rw[decide_eq_false h0];go_enter Tryz.func130,Tryz.ntmps130;go_wp2;go_ret;exact ⟨rfl,rfl⟩
theorem xZ (hb:av w bn 116 (iM n)):Calls Tryz.prog 131 #[.pointer (some ⟨bn,0,none⟩)] w fun e w'=>e= .returned (.bool (decide (0≤n.fr)&&(decide (n.fr≤n.lt)&&decide (n.lt≤32767))))∧w=w':=by
 obtain ⟨x0,x1,x2,x3⟩:=hb.oC;by_cases h0:0≤n.fr
 ·by_cases h1:n.fr≤n.lt
  ·rw[decide_eq_true h0,decide_eq_true h1];have d0:=decide_eq_true h0;have d1:=decide_eq_true h1;go_enter Tryz.func131,Tryz.ntmps131;go_wp2;go_ret;exact ⟨rfl,rfl⟩
  ·rw[decide_eq_true h0,decide_eq_false h1];have d0:=decide_eq_true h0;have d1:=decide_eq_false h1;go_enter Tryz.func131,Tryz.ntmps131;go_wp2;go_ret;exact ⟨rfl,rfl⟩
 ·rw[decide_eq_false h0];have d0:=decide_eq_false h0;go_enter Tryz.func131,Tryz.ntmps131;go_wp2;go_ret;exact ⟨rfl,rfl⟩
theorem yc (hb:av w bn 116 (iM n)):Calls Tryz.prog 133 #[.pointer (some ⟨bn,0,none⟩)] w fun e w'=>e= .returned (.bool (decide (0≤n.sn)&&decide (n.sn<1024)))∧w=w':=by
 obtain ⟨x0,x1,x2,x3⟩:=hb.oC;by_cases h0:0≤n.sn
 ·rw[decide_eq_true h0];have d0:=decide_eq_true h0;go_enter Tryz.func133,Tryz.ntmps133;go_wp2;go_ret;exact ⟨rfl,rfl⟩
 ·rw[decide_eq_false h0];have d0:=decide_eq_false h0;go_enter Tryz.func133,Tryz.ntmps133;go_wp2;go_ret;exact ⟨rfl,rfl⟩
theorem yg (hb:av w bn 116 (iM n)) (ha:av w ba 3 #[.int .i64 aH]):Calls Tryz.prog 134 #[.pointer (some ⟨ba,0,none⟩),.pointer (some ⟨bn,0,none⟩)] w fun e w'=>e= .returned (.bool (decide (1≤dG aH n.sn)&&decide (dG aH n.sn≤512)))∧w=w':=by
 obtain ⟨x0,x1,x2,x3⟩:=hb.oC;have y0:=ha.cell 0;simp at y0;have hd:=oD w aH n.sn;have HD:=Lib.hid hd;clear hd hb ha;generalize dG aH n.sn=d at*;by_cases h0:1≤d
 ·rw[decide_eq_true h0];have d0:=decide_eq_true h0;go_enter Tryz.func134,Tryz.ntmps134;go_wp2_with (go_at_call 135;refine HD.out.mono ?_;rintro e w' ⟨rfl,rfl⟩);go_ret;exact ⟨rfl,rfl⟩
 ·rw[decide_eq_false h0];have d0:=decide_eq_false h0;go_enter Tryz.func134,Tryz.ntmps134;go_wp2_with (go_at_call 135;refine HD.out.mono ?_;rintro e w' ⟨rfl,rfl⟩);go_ret;exact ⟨rfl,rfl⟩
theorem pR (vk:Nat) (cap:Array Value) (x:Bool) (hf:(vk=130∧cap= #[.pointer (some ⟨bn,0,none⟩)])∨(vk=131∧cap= #[.pointer (some ⟨bn,0,none⟩)])∨(vk=133∧cap= #[.pointer (some ⟨bn,0,none⟩)])∨(vk=134∧cap= #[.pointer (some ⟨ba,0,none⟩),.pointer (some ⟨bn,0,none⟩)]))
 (h:Calls Tryz.prog vk cap w fun e w'=>e= .returned (.bool x)∧w=w'):
 Calls Tryz.prog 165 #[.func (.func vk) #[] cap] w fun e w'=>e= .returned (.bool (!x))∧w=w':=by
 have H:=Lib.hid h;clear h;rcases hf with ⟨rfl,rfl⟩|⟨rfl,rfl⟩|⟨rfl,rfl⟩|⟨rfl,rfl⟩
 ·go_enter Tryz.func165,Tryz.ntmps165;go_wp2_with (go_at_call 130;refine H.out.mono ?_;rintro e w' ⟨rfl,rfl⟩);go_ret;exact ⟨rfl,rfl⟩
 ·go_enter Tryz.func165,Tryz.ntmps165;go_wp2_with (go_at_call 131;refine H.out.mono ?_;rintro e w' ⟨rfl,rfl⟩);go_ret;exact ⟨rfl,rfl⟩
 ·go_enter Tryz.func165,Tryz.ntmps165;go_wp2_with (go_at_call 133;refine H.out.mono ?_;rintro e w' ⟨rfl,rfl⟩);go_ret;exact ⟨rfl,rfl⟩
 ·go_enter Tryz.func165,Tryz.ntmps165;go_wp2_with (go_at_call 134;refine H.out.mono ?_;rintro e w' ⟨rfl,rfl⟩);go_ret;exact ⟨rfl,rfl⟩
def fF (aH:Int) (n:Nk):List Bool:=
 [decide (0≤n.sn)&&decide (n.sn<1024),decide (1≤dG aH n.sn)&&decide (dG aH n.sn≤512),if n.part=true then decide (0≤n.fr)&&(decide (n.fr≤n.lt)&&decide (n.lt≤32767)) else decide (n.fr=0)&&decide (n.lt=0)]
theorem ru:(fF aH n).all id=eB aH n:=by
 simp[fF,eB]
set_option maxHeartbeats 800000 in
theorem tL:Calls Tryz.prog 79 #[.int .i64 aH,.agg (iM n)] w fun e w'=>e= .returned (.bool (eB aH n))∧Below w.heap.size w w':=by
 obtain ⟨f3,hf3⟩:∃f3,f3=if n.part then 131 else 130:=⟨_,rfl⟩
 have bA:=((av.new w 3 #[.int .i64 aH]).alloc (.cells (iM n) 116)).alloc (.cells #[.func (.func 133) #[] #[.pointer (some ⟨w.heap.size+1,0,none⟩)],.func (.func 134) #[] #[.pointer (some ⟨w.heap.size,0,none⟩),.pointer (some ⟨w.heap.size+1,0,none⟩)],.func (.func f3) #[] #[.pointer (some ⟨w.heap.size+1,0,none⟩)]] 27);have bN:=(av.new (w.alloc (.cells #[.int .i64 aH] 3)) 116 (iM n)).alloc (.cells #[.func (.func 133) #[] #[.pointer (some ⟨w.heap.size+1,0,none⟩)],.func (.func 134) #[] #[.pointer (some ⟨w.heap.size,0,none⟩),.pointer (some ⟨w.heap.size+1,0,none⟩)],.func (.func f3) #[] #[.pointer (some ⟨w.heap.size+1,0,none⟩)]] 27);have bL:=av.new ((w.alloc (.cells #[.int .i64 aH] 3)).alloc (.cells (iM n) 116)) 27 #[.func (.func 133) #[] #[.pointer (some ⟨w.heap.size+1,0,none⟩)],.func (.func 134) #[] #[.pointer (some ⟨w.heap.size,0,none⟩),.pointer (some ⟨w.heap.size+1,0,none⟩)],.func (.func f3) #[] #[.pointer (some ⟨w.heap.size+1,0,none⟩)]];simp only[World.size_alloc] at bN bL;have hBw:Below w.heap.size w (((w.alloc (.cells #[.int .i64 aH] 3)).alloc (.cells (iM n) 116)).alloc (.cells #[.func (.func 133) #[] #[.pointer (some ⟨w.heap.size+1,0,none⟩)],.func (.func 134) #[] #[.pointer (some ⟨w.heap.size,0,none⟩),.pointer (some ⟨w.heap.size+1,0,none⟩)],.func (.func f3) #[] #[.pointer (some ⟨w.heap.size+1,0,none⟩)]] 27)):=
  (((Below.refl _ w).alloc (Nat.le_refl _) _).alloc (by simp) _).alloc (by simp;omega) _
 have hall:∀W0,av W0 w.heap.size 3 #[.int .i64 aH]→av W0 (w.heap.size+1) 116 (iM n)→av W0 (w.heap.size+1+1) 27 #[.func (.func 133) #[] #[.pointer (some ⟨w.heap.size+1,0,none⟩)],.func (.func 134) #[] #[.pointer (some ⟨w.heap.size,0,none⟩),.pointer (some ⟨w.heap.size+1,0,none⟩)],.func (.func f3) #[] #[.pointer (some ⟨w.heap.size+1,0,none⟩)]]→
  Calls Tryz.prog 132 #[.slice (some ⟨w.heap.size+1+1,0,none⟩) 3 3] W0 fun e w'=>e= .returned (.bool (eB aH n))∧W0=w':=fun W0 b0 b1 b2=>by
  rw[←ru];refine xX (w.heap.size+1+1) [.func (.func 133) #[] #[.pointer (some ⟨w.heap.size+1,0,none⟩)],.func (.func 134) #[] #[.pointer (some ⟨w.heap.size,0,none⟩),.pointer (some ⟨w.heap.size+1,0,none⟩)],.func (.func f3) #[] #[.pointer (some ⟨w.heap.size+1,0,none⟩)]] (fF aH n) (fun W=>W0=W) W0 ?_;refine ko (w.heap.size+1+1) _ (fF aH n) (fun W=>W0=W) W0 ?_;refine nQ (w.heap.size+1+1) _ (fF aH n) (fun W=>W0=W) W0 rfl (by simp) (fun W hW=>by rw[←hW];exact b2) ?_ rfl;rintro i fv x W bS hx hpre rfl
  match i,bS,hx,hpre with
  |0,bS,hx,_=>
   simp only[fF,List.getElem?_cons_zero,Option.some.injEq] at bS hx;subst bS hx;exact pR W0 (w.heap.size+1) w.heap.size 133 _ _ (.inr (.inr (.inl ⟨rfl,rfl⟩))) (yc W0 _ n b1)
  |1,bS,hx,_=>
   simp only[fF,List.getElem?_cons_zero,List.getElem?_cons_succ,Option.some.injEq] at bS hx;subst bS hx;exact pR W0 (w.heap.size+1) w.heap.size 134 _ _ (.inr (.inr (.inr ⟨rfl,rfl⟩))) (yg W0 _ _ aH n b1 b0)
  |2,bS,hx,_=>
   simp only[fF,List.getElem?_cons_zero,List.getElem?_cons_succ,Option.some.injEq] at bS hx;subst bS hx;cases hp:n.part with
   |true=>
    simp only[hp,if_true] at hf3 ⊢;subst hf3;exact pR W0 (w.heap.size+1) w.heap.size 131 _ _ (.inr (.inl ⟨rfl,rfl⟩)) (xZ W0 _ n b1)
   |false=>
    simp only[hp,Bool.false_eq_true,if_false] at hf3 ⊢;subst hf3;exact pR W0 (w.heap.size+1) w.heap.size 130 _ _ (.inl ⟨rfl,rfl⟩) (xY W0 _ n b1)
  |i+3,bS,_,_=>simp at bS
 have Bt:=hall _ bA bN bL;have iW:=Lib.hid Bt;have HB:=Lib.hid hBw;have x1:=(av.new (w.alloc (.cells #[.int .i64 aH] 3)) 116 (iM n)).cell 1;clear hall Bt bA bN bL hBw;unfold iM at*;generalize eB aH n=R at*;cases hp:n.part with
 |true=>
  rw[hp] at hf3 iW HB x1;simp only[if_true] at hf3;subst hf3;have HP:=Lib.hid hp;clear hp;go_enter Tryz.func79,Tryz.ntmps79;go_wp2_with (go_at_call 132;refine iW.out.mono ?_;rintro e w' ⟨rfl,rfl⟩);go_ret;exact ⟨rfl,HB.out⟩
 |false=>
  rw[hp] at hf3 iW HB x1;simp only[Bool.false_eq_true,if_false] at hf3;subst hf3;have HP:=Lib.hid hp;clear hp;go_enter Tryz.func79,Tryz.ntmps79;go_wp2_with (go_at_call 132;refine iW.out.mono ?_;rintro e w' ⟨rfl,rfl⟩);go_ret;exact ⟨rfl,HB.out⟩
set_option maxRecDepth 10000 in
set_option maxHeartbeats 1000000 in
theorem pU (a b:Nk):Calls Tryz.prog 80 #[.int .i64 aH,.agg (iM a),.agg (iM b)] w fun e w'=>e= .returned (.bool (gZ aH a b))∧Below w.heap.size w w':=by
 have hd:=fun (x:Int) (W:World)=>oD W aH x
 have HD:=Lib.hid hd;have hB:=((Below.refl w.heap.size w).alloc (Nat.le_refl _) (.cells (iM a) 116)).alloc (by simp) (.cells (iM b) 116);have ba:=(av.new w 116 (iM a)).alloc (.cells (iM b) 116);have bb:=av.new (w.alloc (.cells (iM a) 116)) 116 (iM b);simp only[World.size_alloc] at bb;obtain ⟨x0,x1,x2,x3⟩:=ba.oC;obtain ⟨y0,y1,y2,y3⟩:=bb.oC;have HB:=Lib.hid hB;have hfin:gZ aH a b=(decide (dG aH b.sn<dG aH a.sn)||(decide (a.sn=b.sn)&&(a.part&&(b.part&&decide (a.lt<b.fr))))):=rfl;rw[hfin];clear hd hB ba bb hfin;unfold iM at*;obtain ⟨D5,ap,af,al⟩:=a;obtain ⟨D6,bp,bf,bl⟩:=b;dsimp only at*;by_cases hA:dG aH D6<dG aH D5
 ·have d1:decide (dG aH D6<dG aH D5)=true:=decide_eq_true hA;rw[d1];go_enter Tryz.func80,Tryz.ntmps80;go_wp2_with fail
  go_quiet ((go_at_call 135;exact Calls.quiet_of_same ((HD.out _ _).mono fun _ _ hh=>⟨hh.1,hh.2.symm⟩)))
  go_wp2;go_ret;exact ⟨rfl,HB.out.drewN _⟩
 have d1:decide (dG aH D6<dG aH D5)=false:=decide_eq_false hA;rw[d1];by_cases Ag:D5=D6
 ·have e1:(D5==D6)=true:=by simp[Ag]
  rw[decide_eq_true Ag];have zi:=Lib.hid Ag;clear Ag;cases ap with
  |false=>
   go_enter Tryz.func80,Tryz.ntmps80;go_wp2_with fail
   go_quiet ((go_at_call 135;exact Calls.quiet_of_same ((HD.out _ _).mono fun _ _ hh=>⟨hh.1,hh.2.symm⟩)))
   go_wp2;go_ret;exact ⟨rfl,HB.out.drewN _⟩
  |true=>
   cases bp with
   |false=>
    go_enter Tryz.func80,Tryz.ntmps80;go_wp2_with fail
    go_quiet ((go_at_call 135;exact Calls.quiet_of_same ((HD.out _ _).mono fun _ _ hh=>⟨hh.1,hh.2.symm⟩)))
    go_wp2;go_ret;exact ⟨rfl,HB.out.drewN _⟩
   |true=>
    go_enter Tryz.func80,Tryz.ntmps80;go_wp2_with fail
    go_quiet ((go_at_call 135;exact Calls.quiet_of_same ((HD.out _ _).mono fun _ _ hh=>⟨hh.1,hh.2.symm⟩)))
    go_wp2;go_ret;exact ⟨by simp,HB.out.drewN _⟩
 ·have e1:(D5==D6)=false:=by simp[Ag]
  rw[decide_eq_false Ag];go_enter Tryz.func80,Tryz.ntmps80;go_wp2_with fail
  go_quiet ((go_at_call 135;exact Calls.quiet_of_same ((HD.out _ _).mono fun _ _ hh=>⟨hh.1,hh.2.symm⟩)))
  go_wp2;go_ret;exact ⟨rfl,HB.out.drewN _⟩
end
end
end Go.Proofs.YtiecgfahidpldaaGreat
