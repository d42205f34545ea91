/- amrecv: take: whether bytes are received behind a range; the round's memory. amrecv: the missing ranges of a stored PDU. amrecv: entries of a report: gaps, and what turns a range into an entry. amrecv: collected: the entries of the missing ranges. amrecv: entries. -/
import Derived.Test.YtiecgfahidpldaaGreatM3af
import Derived.Test.YtiecgfahidpldaaGreatM3ag
import Derived.Test.YtiecgfahidpldaaGreatM3aj
import Derived.Test.YtiecgfahidpldaaGreatM3am
import Derived.Test.YtiecgfahidpldaaGreatM3as
import Derived.StillTailTactics
namespace Go.Proofs.YtiecgfahidpldaaGreat
section
open Go.RowKit Go.Shelf
attribute [local go_sem] Oper.semAt_some
section
variable {w w':World} {A:Option Addr} {n c:Nat} {l:List Fl}
theorem LM (f:Fl) (w:World):Calls Tryz.prog 84 #[.agg #[.bool f.1,.bool f.2.1,.bool f.2.2]] w fun e w'=>e= .returned (.bool f.1)∧Below w.heap.size w w':=by
 have hb:=aA.new w 101 #[.bool f.1,.bool f.2.1,.bool f.2.2];have c0:=hb.cell 0;simp at c0;clear hb;go_enter Tryz.func84,Tryz.ntmps84;go_wp2;go_ret;exact ⟨rfl,(Below.refl _ w).alloc (Nat.le_refl _) _⟩
set_option maxHeartbeats 400000 in
theorem OW (h:mJ w A n c l) (hn:n≤100000):
 Calls Tryz.prog 83 #[.slice A n c,.func (.func 84) #[] #[]] w fun e w'=>e= .returned (.bool (l.any (fun f=>f.1)))∧Below w.heap.size w w':=by
 have key:Calls Tryz.prog 136 #[.slice A n c,.func (.func 84) #[] #[]] w fun e w'=>(∃i:Int,e= .returned (.int .i64 i)∧(decide (i≥0))=l.any (fun f=>f.1))∧Below w.heap.size w w':=by
  have hcap:=h.cap;have hmx:=h.mx;have HH:=Lib.hid h;have hlen:=h.len;clear h;go_enter Tryz.func136,Tryz.ntmps136;go_wp2
  go_loopw [8] (fun i wr=>∃k:Nat,k≤n∧i= .int .i64 k∧(l.take k).any (fun f=>f.1)=false∧Below w.heap.size w wr) (fun i _=>n-(intOf i).toNat)
  case atStart=>exact ⟨0,Nat.zero_le _,rfl,by simp,Below.refl _ w⟩
  case round=>
   obtain ⟨k,hk,rfl,hno,hb⟩:=hrel;by_cases hlt:k<n
   ·obtain ⟨g,o,rfl,hg,hc⟩:=(HH.out.below hb).at_ (by omega);obtain ⟨f,hf⟩:∃f,l[k]? =some f:=⟨_,List.getElem?_eq_getElem (by omega)⟩
    obtain ⟨k0,k1,k2⟩:=hc k f hf;have hcl:=LM f wr;have hst:(l.take (k+1)).any (fun f=>f.1)=f.1:=by rw[List.take_add_one,hf,List.any_append,hno];simp
    have hall:f.1=true→l.any (fun f=>f.1)=true:=fun e=>List.any_eq_true.2 ⟨f,List.mem_of_getElem? hf,e⟩
    have HST:=Lib.hid hst;have lT:=Lib.hid hall;have HB:=Lib.hid hb;have pJ:=Lib.hid hcl;obtain ⟨fg,fs,fe⟩:=f;dsimp only at k0 k1 k2 HST lT pJ;clear hc hf hno hst hall hb hcl;cases fg with
    |true=>
     go_wp2_with fail;refine pJ.out.mono ?_;rintro e1 w1 ⟨rfl,hb1⟩;go_wp2;go_ret;exact ⟨⟨k,rfl,by rw[lT.out trivial];simp⟩,HB.out.trans (hb1.mono HB.out.size)⟩
    |false=>
     go_wp2_with fail;refine pJ.out.mono ?_;rintro e1 w1 ⟨rfl,hb1⟩;go_wp2
     go_round
     case rel=>exact ⟨k+1,by omega,by go_num,HST.out,HB.out.trans (hb1.mono HB.out.size)⟩
     case measure=>simp[intOf];omega
   ·have e:l.take k=l:=List.take_of_length_le (by omega);rw[e] at hno;have HN:=Lib.hid hno;have HB:=Lib.hid hb;clear e hno hb;go_wp2;go_ret;exact ⟨⟨-1,rfl,by rw[HN.out];rfl⟩,HB.out⟩
 have HK:=Lib.hid key;have hcap:=h.cap;have hmx:=h.mx;clear key h;go_enter Tryz.func83,Tryz.ntmps83;go_wp2_with fail;refine HK.out.mono ?_;rintro e1 w1 ⟨⟨i,rfl,hi⟩,hb1⟩;have HI:=Lib.hid hi;clear hi;go_wp2;go_ret;exact ⟨by rw[←HI.out];rfl,hb1⟩
end
section
variable {P:Program} {ops:Array Oper} {Q:Exit→Act→World→Prop} {n l:Nat}
theorem sD {id:Nat} {a:Act} {w:World} (S:World→Prop) (L:List Nat) (hm:P.follows .mixedOrders=true) (hd:ops.toList.all mR=true) (hout:¬LetsOut Q)
 (h:fG P .any ops Q S L ops.size (Array.replicate ops.size false) a w.drew):(Code.region id ops true).wpIn (Fence.wide.inRound l) n P Q a w:=
 wpIn_region_any hm (iL hd hout _ _ _ _ (rR _ _ _ _ h))
end
section
variable {P:Program}
theorem aT {id m lr:Nat} {Q:Exit→Act→World→Prop} {a:Act} {w:World} {l:List Oper} (n:Nat) (hm:P.follows .mixedOrders=true) (hd:l.toArray.toList.all mR=true) (hout:¬LetsOut Q) (hB:Region.lexTailB .any l.toArray n=true)
 (h:wpStill P l.toArray {w with drawn:=w.drawn+1} (fun a'=>wpList P l.toArray Q (l.drop n) a' {w with drawn:=w.drawn+1}) (l.take n) a):(Code.region id l.toArray true).wpIn (Fence.wide.inRound lr) m P Q a w:=by
 simp only[Region.lexTailB,Bool.and_eq_true,decide_eq_true_eq] at hB;obtain ⟨⟨⟨⟨hsel,hn⟩,hs⟩,hc⟩,hlex⟩:=hB;have hn':n<l.length:=by simpa using hn
 have htl:(l.take n).length=n:=by simp;omega
 have hdl:(l.drop n).length=l.toArray.size-n:=by simp
 have inv0:HeadInv .any l.toArray n (Array.replicate l.toArray.size false):=
  ⟨by simp,fun j oj _ hl=>(by rw[getD_replicate_false] at hl;cases hl),fun t _ ht=>getD_in (by simpa using ht) (getD_replicate_false _ _)⟩
 have H:=wpAnyL_lex (md:= .any) (g:=l.toArray.size-n) hsel hs hc hn (l.take n) 0 _ a (fun j hj=>by
  have hj':j<n:=by rw[htl] at hj;exact hj
  simp[hj']) (by simpa using htl) inv0 (by rw[htl];exact hlex) h
 refine wpIn_region_any hm (iL hd hout _ _ _ _ ?_);have:=wpAny_of_head (Q':=Q) (g:=l.toArray.size-n) (fun listed a' hL=>by
  have:=wpAny_of_seq (md:= .any) (Q':=Q) (l.drop n) n listed a' {w with drawn:=w.drawn+1} (fun j=>by simp[List.getElem?_drop]) (by rw[hdl];exact hL.1) hL.2
  rwa [hdl] at this) _ _ _ H
 rw[htl,show n+(l.toArray.size-n)=l.toArray.size by omega] at this;exact this
end
theorem uE {W:World} {base size n:Nat} {e:TypeId} {v:Value} {xs:List Value} (h:W.ownsRow base e size v n xs) (hn:0<n):∃g cap,v= .slice (some ⟨g,0,none⟩) n cap∧n≤cap∧cap≤9223372036854775807∧g<W.heap.size:=by
 rcases h.2 with ⟨_,h0⟩|⟨g,cap,cur,rfl,_,hg,h1,h2,_⟩
 ·omega
 ·exact ⟨g,cap,rfl,h1,by unfold maxLen at h2;omega,lt_of_heap hg⟩
theorem wK (s e:Bool) (n:Nat):∀(a:List (List UInt8)) (i:Nat) (p:List UInt8),dB s e n i (a++ [p])=dB s e n i a++jo p (decide (0<i+a.length)||s) (decide (i+a.length+1<n)||e)
 | [],i,p=>by simp[dB]
 |q::r,i,p=>by
  rw[List.cons_append,dB,dB,wK s e n r (i+1) p,List.append_assoc,List.length_cons];rw[show i+1+r.length=i+(r.length+1) by omega]
theorem Gt {s e:Bool} {n:Nat} {ps:List (List UInt8)} {k:Nat} {p:List UInt8} (h:ps[k]? =some p):dB s e n 0 (ps.take (k+1))=dB s e n 0 (ps.take k)++jo p (decide (0<k)||s) (decide (k+1<n)||e):=by
 have hk:=(List.getElem?_eq_some_iff.1 h).1;rw[List.take_add_one,h];simp only[Option.toList];rw[wK,List.length_take,Nat.min_eq_left (by omega),Nat.zero_add]
theorem OX (l:List (Fl × UInt8)) (f:Fl) (b:UInt8) (a:Nat) (x:List Fl × List UInt8):
 xL (l++ [(f,b)]) a x=if (dW (xL l a x).1 (a+l.length)).1=true then xL l a x else ((xL l a x).1.set (a+l.length) f,(xL l a x).2.set (a+l.length) b):=by
 rw[Ee];rfl
def Qe (s e:Bool) (off:Nat) (ps:List (List UInt8)) (x0:List Fl × List UInt8) (k:Nat):List Fl × List UInt8:=xL (dB s e ps.length 0 (ps.take k)) off x0
def Am (s e:Bool) (off:Nat) (ps:List (List UInt8)) (x0:List Fl × List UInt8) (k j:Nat):List Fl × List UInt8:=
 xL ((jo (ps[k]?.getD []) (decide (0<k)||s) (decide (k+1<ps.length)||e)).take j) (off+au (ps.take k)) (Qe s e off ps x0 k)
section
variable {s e:Bool} {off:Nat} {ps:List (List UInt8)} {x0:List Fl × List UInt8} {k:Nat}
theorem OY:Am s e off ps x0 k 0=Qe s e off ps x0 k:=by
 unfold Am;rw[List.take_zero];rfl
theorem OZ (hk:k<ps.length):Am s e off ps x0 k (ps[k]?.getD []).length=Qe s e off ps x0 (k+1):=by
 have hp:ps[k]? =some ps[k]:=List.getElem?_eq_getElem hk;unfold Am Qe;rw[Gt (n:=ps.length) hp,Ee,mF,hp,Option.getD_some,List.take_of_length_le (by rw[dU];exact Nat.le_refl _)]
theorem R4 (j:Nat):(Am s e off ps x0 k j).1.length=x0.1.length∧(Am s e off ps x0 k j).2.length=x0.2.length:=by
 unfold Am Qe;have h1:=mY (dB s e ps.length 0 (ps.take k)) off x0;have h2:=mY ((jo (ps[k]?.getD []) (decide (0<k)||s) (decide (k+1<ps.length)||e)).take j) (off+au (ps.take k)) (xL (dB s e ps.length 0 (ps.take k)) off x0);exact ⟨h2.1.trans h1.1,h2.2.trans h1.2⟩
theorem O0 {j:Nat} (hj:j<(ps[k]?.getD []).length):Am s e off ps x0 k (j+1)=
 if (dW (Am s e off ps x0 k j).1 (off+au (ps.take k)+j)).1=true then Am s e off ps x0 k j
 else ((Am s e off ps x0 k j).1.set (off+au (ps.take k)+j) (true,decide (j=0)&&(decide (0<k)||s),decide (j+1=(ps[k]?.getD []).length)&&(decide (k+1<ps.length)||e)),
  (Am s e off ps x0 k j).2.set (off+au (ps.take k)+j) ((ps[k]?.getD [])[j]?.getD 0)):=by
 unfold Am;generalize ps[k]?.getD []=p at*;have hg:(jo p (decide (0<k)||s) (decide (k+1<ps.length)||e))[j]? =some ((true,decide (j=0)&&(decide (0<k)||s),decide (j+1=p.length)&&(decide (k+1<ps.length)||e)),p[j]?.getD 0):=by
  rw[nY,List.getElem?_eq_getElem hj];rfl
 rw[List.take_add_one,hg];simp only[Option.toList];rw[OX,List.length_take,dU,Nat.min_eq_left (by omega)]
end
def Ug (b:Nat) (vf vd:Value) (k:Nat) (_:Obj):Prop:=k=b∨vf.ownBlock=some k∨vd.ownBlock=some k
structure pZ (w:World) (b:Nat) (vf vd:Value) (xc:Array Value) (sz:Int) (kY kS:Value) (fl:List Fl) (da:List UInt8) (W:World):Prop where
 blk:aA W b 90 #[kY,kS,.int .i64 sz]
 fr:W.ownsRow 0 101 3 kY fl.length (uR fl)
 dr:W.ownsRow 0 5 1 kS da.length (cu da)
 bf:∀k,kY.ownBlock=some k→vf.ownBlock=some k∨w.heap.size≤k
 bd:∀k,kS.ownBlock=some k→vd.ownBlock=some k∨w.heap.size≤k
 kp:Kept (Ug b vf vd) w W
 bp:aA W w.heap.size 86 #[.pointer (some ⟨b,0,none⟩)]
 bx:aA W (w.heap.size+1) 72 xc
 hb:b<w.heap.size
section
variable {w W W':World} {b:Nat} {vf vd kY kS:Value} {xc:Array Value} {sz:Int} {fl:List Fl} {da:List UInt8}
theorem pZ.below (h:pZ w b vf vd xc sz kY kS fl da W) (hb:Below W.heap.size W W'):pZ w b vf vd xc sz kY kS fl da W':=
 ⟨h.blk.below hb h.blk.lt,bT h.fr fun k hk=>hb.block k (h.fr.lt k hk).2,bT h.dr fun k hk=>hb.block k (h.dr.lt k hk).2,h.bf,h.bd,h.kp.trans ((Kept.of_below hb).gX fun k o ho hm=>by have:=lt_of_heap ho;omega),h.bp.below hb h.bp.lt,h.bx.below hb h.bx.lt,h.hb⟩
theorem pZ.drew (h:pZ w b vf vd xc sz kY kS fl da W):pZ w b vf vd xc sz kY kS fl da W.drew:=h.below (Below.refl _ W).drew
theorem pZ.alloc (h:pZ w b vf vd xc sz kY kS fl da W) (o:Obj):pZ w b vf vd xc sz kY kS fl da (W.alloc o):=h.below ((Below.refl _ W).alloc (Nat.le_refl _) o)
theorem jJ {base size n g:Nat} {e t:TypeId} {v:Value} {xs:List Value} {cs:Array Value} (h:W.ownsRow base e size v n xs) (hg:aA W g t cs) (hne:e≠t):some g≠v.ownBlock:=fun e'=>aF h hg hne e'.symm
theorem qX {b1 b2 s1 s2 n1 n2:Nat} {e1 e2:TypeId} {v1 v2:Value} {x1 x2:List Value} (h1:W.ownsRow b1 e1 s1 v1 n1 x1) (h2:W.ownsRow b2 e2 s2 v2 n2 x2) (hne:e1≠e2):v1.ownBlock=none∨v1.ownBlock≠v2.ownBlock:=by
 cases hv:v1.ownBlock with
 |none=>exact .inl rfl
 |some k=>
  refine .inr fun e=> ?_
  obtain ⟨o1,a1,⟨c1,f1,rfl⟩,_⟩:=bV h1 hv;obtain ⟨o2,a2,⟨c2,f2,e2⟩,_⟩:=bV h2 e.symm;rw[a1] at a2;cases a2;cases e2;exact hne rfl
theorem j6 {base size n g i:Nat} {e t:TypeId} {v:Value} {xs:List Value} {cs:Array Value} (h:W.ownsRow base e size v n xs) (hb:aA W g t cs) (hne:e≠t) (u:Value):(W.setCell ⟨g,i,none⟩ u).ownsRow base e size v n xs:=
 bT h fun k hk=>Below.heap_setCell W ⟨g,i,none⟩ u k (fun ek=>by
  have e2:k=g:=ek;subst e2;exact aF h hb hne hk)
theorem pZ.flags (h:pZ w b vf vd xc sz kY kS fl da W) {v2:Value} {fl2:List Fl} (hr:W'.ownsRow 0 101 3 v2 fl2.length (uR fl2)) (hg:W.grownBy W' kY.ownBlock) (hv:v2.ownBlock=kY.ownBlock∨v2.ownBlock=some W.heap.size):
 pZ w b vf vd xc sz v2 kS fl2 da (W'.setCell ⟨b,0,none⟩ v2):=by
 have hbW:=h.blk.grown hg (jJ h.fr h.blk (by decide));have hsz:=h.kp.size;have hk2:Kept (Ug b vf vd) w W':=h.kp.grown hg fun k e o ho=>by
  rcases h.bf k e with e2|e2
  ·exact .inr (.inl e2)
  ·have:=lt_of_heap ho;omega
 refine ⟨by simpa using hbW.aC 0 v2,?_,?_,fun k e=> ?_,h.bd,hk2.setCell (p:=⟨b,0,none⟩) (fun _ _=> .inl rfl) _,?_,?_,h.hb⟩
 ·exact j6 (i:=0) hr hbW (by decide) _
 ·exact aO (i:=0) (h.dr.kept hg (qX h.dr h.fr (by decide))) hbW (by decide) _
 ·rcases hv with e2|e2
  ·exact h.bf k (e2 ▸ e)
  ·rw[e2] at e;cases e;exact .inr hsz
 ·exact (h.bp.grown hg (jJ h.fr h.bp (by decide))).far (by have:=h.hb;simp;omega) _
 ·exact (h.bx.grown hg (jJ h.fr h.bx (by decide))).far (by have:=h.hb;simp;omega) _
theorem pZ.data (h:pZ w b vf vd xc sz kY kS fl da W) {v2:Value} {da2:List UInt8} (hr:W'.ownsRow 0 5 1 v2 da2.length (cu da2)) (hg:W.grownBy W' kS.ownBlock) (hv:v2.ownBlock=kS.ownBlock∨v2.ownBlock=some W.heap.size):
 pZ w b vf vd xc sz kY v2 fl da2 (W'.setCell ⟨b,1,none⟩ v2):=by
 have hbW:=h.blk.grown hg (jJ h.dr h.blk (by decide));have hsz:=h.kp.size;have hk2:Kept (Ug b vf vd) w W':=h.kp.grown hg fun k e o ho=>by
  rcases h.bd k e with e2|e2
  ·exact .inr (.inr e2)
  ·have:=lt_of_heap ho;omega
 refine ⟨by simpa using hbW.aC 1 v2,?_,?_,h.bf,fun k e=> ?_,hk2.setCell (p:=⟨b,1,none⟩) (fun _ _=> .inl rfl) _,?_,?_,h.hb⟩
 ·exact j6 (i:=1) (h.fr.kept hg (qX h.fr h.dr (by decide))) hbW (by decide) _
 ·exact aO (i:=1) hr hbW (by decide) _
 ·rcases hv with e2|e2
  ·exact h.bd k (e2 ▸ e)
  ·rw[e2] at e;cases e;exact .inr hsz
 ·exact (h.bp.grown hg (jJ h.dr h.bp (by decide))).far (by have:=h.hb;simp;omega) _
 ·exact (h.bx.grown hg (jJ h.dr h.bx (by decide))).far (by have:=h.hb;simp;omega) _
end
section
variable {w W W':World} {b:Nat} {vf vd kY kS:Value} {xc:Array Value} {sz:Int} {fl:List Fl} {da:List UInt8}
theorem zC {base size n:Nat} {e:TypeId} {v:Value} {xs:List Value} {row:Option Nat} (h:W.ownsRow base e size v n xs) (hg:W.grownBy W' row) (hr:∀r,row=some r→∃o:Obj,W.heap[r]? =some o∧o.isCells=false):W'.ownsRow base e size v n xs:=by
 refine h.kept hg ?_;cases hv:v.ownBlock with
 |none=>exact .inl rfl
 |some k=>
  refine .inr fun e2=> ?_
  obtain ⟨o,ho,hc⟩:=hr k e2.symm;obtain ⟨o2,ho2,⟨c1,f1,rfl⟩,_⟩:=bV h hv;rw[ho2] at ho;cases ho;cases hc
theorem pZ.quiet (h:pZ w b vf vd xc sz kY kS fl da W) {row:Option Nat} (hg:W.grownBy W' row) (hr:∀r,row=some r→w.heap.size≤r∧∃o:Obj,W.heap[r]? =some o∧o.isCells=false):pZ w b vf vd xc sz kY kS fl da W':=
 have hr':=fun r e=>(hr r e).2
 ⟨eO h.blk hg hr',zC h.fr hg hr',zC h.dr hg hr',h.bf,h.bd,h.kp.grown hg (fun k e o ho=>by have:=lt_of_heap ho;have:=(hr k e).1;omega),eO h.bp hg hr',eO h.bx hg hr',h.hb⟩
theorem pZ.V6 {gd n cd at_:Nat} (h:pZ w b vf vd xc sz kY (.slice (some ⟨gd,0,none⟩) n cd) fl da W) (hn:da.length=n) (x:UInt8):pZ w b vf vd xc sz kY (.slice (some ⟨gd,0,none⟩) n cd) fl (da.set at_ x) (W.setCell ⟨gd,at_,none⟩ (bv x)):=by
 subst hn;have hg:=aJ W gd at_ (bv x);have hd:=h.dr;have hr:=(hd.stored at_ (bv x)).1;have hne:∀{g:Nat} {t:TypeId} {cs:Array Value},aA W g t cs→5≠t→some g≠some gd:=fun hb hne=>jJ hd hb hne
 refine ⟨h.blk.grown hg (hne h.blk (by decide)),h.fr.kept hg (qX h.fr hd (by decide)),?_,h.bf,h.bd,h.kp.grown hg (fun k e o ho=> ?_),h.bp.grown hg (hne h.bp (by decide)),h.bx.grown hg (hne h.bx (by decide)),h.hb⟩
 ·have e:cu (da.set at_ x)=(cu da).set at_ (bv x):=by simp[cu,List.map_set]
  rw[e,List.length_set];exact hr
 ·cases e;rcases h.bd gd rfl with e2|e2
  ·exact .inr (.inr e2)
  ·have:=lt_of_heap ho;omega
theorem pZ.zD {gf n cf at_:Nat} (h:pZ w b vf vd xc sz (.slice (some ⟨gf,0,none⟩) n cf) kS fl da W) (hn:fl.length=n) (hat:at_<n) (f:Fl):
 pZ w b vf vd xc sz (.slice (some ⟨gf,0,none⟩) n cf) kS (fl.set at_ f) da (((W.setCell ⟨gf,at_*3,none⟩ (.bool f.1)).setCell ⟨gf,at_*3+1,none⟩ (.bool f.2.1)).setCell ⟨gf,at_*3+2,none⟩ (.bool f.2.2)):=by
 subst hn;have hd:=h.fr;have hr1:=(hd.stored (at_*3) (.bool f.1)).1;have hr2:=(hr1.stored (at_*3+1) (.bool f.2.1)).1;have hr3:=(hr2.stored (at_*3+2) (.bool f.2.2)).1;have hg:W.grownBy (((W.setCell ⟨gf,at_*3,none⟩ (.bool f.1)).setCell ⟨gf,at_*3+1,none⟩ (.bool f.2.1)).setCell ⟨gf,at_*3+2,none⟩ (.bool f.2.2)) (some gf):=
  ((aJ W gf _ _).trans (aJ _ gf _ _)).trans (aJ _ gf _ _)
 have hne:∀{g:Nat} {t:TypeId} {cs:Array Value},aA W g t cs→101≠t→some g≠some gf:=fun hb hne=>jJ hd hb hne
 refine ⟨h.blk.grown hg (hne h.blk (by decide)),?_,h.dr.kept hg (qX h.dr hd (by decide)),h.bf,h.bd,h.kp.grown hg (fun k e o ho=> ?_),h.bp.grown hg (hne h.bp (by decide)),h.bx.grown hg (hne h.bx (by decide)),h.hb⟩
 ·rw[KB _ _ _ hat] at hr3;rw[List.length_set];exact hr3
 ·cases e;rcases h.bf gf rfl with e2|e2
  ·exact .inr (.inl e2)
  ·have:=lt_of_heap ho;omega
end
section
variable {w W W':World} {b:Nat} {vf vd kY kS:Value} {xc:Array Value} {sz:Int} {fl:List Fl} {da:List UInt8}
theorem pZ.ZS (h:pZ w b vf vd xc sz kY kS fl da W) {D:Nat} {o:Obj} (o':Obj) (hD:W.heap[D]? =some o) (hc:o.isCells=false) (hDl:w.heap.size≤D):pZ w b vf vd xc sz kY kS fl da (W.putObj D o'):=
 h.quiet (grownBy_putObj' W D o') (fun r e=>by cases e;exact ⟨hDl,o,hD,hc⟩)
theorem pZ.ae4 (h:pZ w b vf vd xc sz kY kS fl da W) (z:Int):pZ w b vf vd xc z kY kS fl da (W.setCell ⟨b,2,none⟩ (.int .i64 z)):=
 ⟨by simpa using h.blk.aC 2 (.int .i64 z),j6 h.fr h.blk (by decide) _,j6 h.dr h.blk (by decide) _,h.bf,h.bd,h.kp.setCell (p:=⟨b,2,none⟩) (fun _ _=> .inl rfl) _,h.bp.far (by have:=h.hb;simp;omega) _,h.bx.far (by have:=h.hb;simp;omega) _,h.hb⟩
end
def R5 (b:Nat) (vf vd:Value) (bi Z:Nat) (j:Nat) (_:Obj):Prop:=j=b∨vf.ownBlock=some j∨vd.ownBlock=some j∨j=bi∨Z≤j
structure TkI (w:World) (b:Nat) (vf vd:Value) (xc:Array Value) (sz:Int) (EN EO:Value) (s e:Bool) (off:Nat) (ps:List (List UInt8)) (x0:List Fl × List UInt8) (bi:Nat) (w5:World) (k:Nat) (W:World):Prop where
 t:pZ w b vf vd xc sz EN EO (Qe s e off ps x0 k).1 (Qe s e off ps x0 k).2 W
 di:aA W bi 3 #[.int .i64 k]
 kp:Kept (R5 b EN EO bi w5.heap.size) w5 W
theorem R6 (w:World) (b:Nat) (vf vd:Value) (xc:Array Value) (sz:Int) (EN EO:Value) (s e:Bool) (off:Nat) (ps:List (List UInt8)) (x0:List Fl × List UInt8) (bi:Nat) (w5:World) (hw:w.heap.size≤w5.heap.size):
 OwnFrom w5.heap.size (TkI w b vf vd xc sz EN EO s e off ps x0 bi w5):=fun k X Y row hs hg hr=>by
 have hr':∀r,row=some r→∃o:Obj,X.heap[r]? =some o∧o.isCells=false:=fun r e=>(hr r e).2
 exact ⟨hs.t.quiet hg fun r e=>⟨by have:=(hr r e).1;omega,(hr r e).2⟩,eO hs.di hg hr',hs.kp.trans ((Kept.refl _ X).grown hg (fun j e _ _=> .inr (.inr (.inr (.inr (hr j e).1)))))⟩
structure Gu (w:World) (b:Nat) (vf vd:Value) (xc:Array Value) (sz:Int) (EN EO:Value) (fl:List Fl) (da:List UInt8) (bi:Nat) (w5 W0:World) (k:Nat) (W:World):Prop where
 t:pZ w b vf vd xc sz EN EO fl da W
 di:aA W bi 3 #[.int .i64 k]
 kp:Kept (R5 b EN EO bi w5.heap.size) w5 W
 k2:Kept (R5 b EN EO bi w5.heap.size) W0 W
 kf:KeepsFrom w5.heap.size W0 W
section
variable {w W W' w5 W0:World} {b:Nat} {vf vd kY kS:Value} {xc:Array Value} {sz:Int} {fl:List Fl} {da:List UInt8} {bi k:Nat}
theorem Gu.below (h:Gu w b vf vd xc sz kY kS fl da bi w5 W0 k W) (hb:Below W.heap.size W W') (_hz:w5.heap.size≤W.heap.size):Gu w b vf vd xc sz kY kS fl da bi w5 W0 k W':=
 have hk:Kept (R5 b kY kS bi w5.heap.size) W W':=(Kept.of_below hb).gX fun k o ho hm=>by have:=lt_of_heap ho;omega
 ⟨h.t.below hb,h.di.below hb h.di.lt,h.kp.trans hk,h.k2.trans hk,h.kf.trans ⟨hb.size,fun k o _ ho _=>(hb.block k (lt_of_heap ho)).trans ho⟩⟩
theorem Gu.drew (h:Gu w b vf vd xc sz kY kS fl da bi w5 W0 k W) (hz:w5.heap.size≤W.heap.size):Gu w b vf vd xc sz kY kS fl da bi w5 W0 k W.drew:=h.below (Below.refl _ W).drew hz
theorem Gu.V6 {gd n cd at_:Nat} (h:Gu w b vf vd xc sz kY (.slice (some ⟨gd,0,none⟩) n cd) fl da bi w5 W0 k W) (hn:da.length=n) (x:UInt8):Gu w b vf vd xc sz kY (.slice (some ⟨gd,0,none⟩) n cd) fl (da.set at_ x) bi w5 W0 k (W.setCell ⟨gd,at_,none⟩ (bv x)):=by
 have hk:Kept (R5 b kY (.slice (some ⟨gd,0,none⟩) n cd) bi w5.heap.size) W (W.setCell ⟨gd,at_,none⟩ (bv x)):=(Kept.refl _ W).setCell (p:=⟨gd,at_,none⟩) (fun _ _=> .inr (.inr (.inl rfl))) _;have hd:=h.t.dr;rw[hn] at hd;exact ⟨h.t.V6 hn x,h.di.grown (aJ W gd at_ (bv x)) (jJ hd h.di (by decide)),h.kp.trans hk,h.k2.trans hk,h.kf.trans ((KeepsOthers.setCell _ _ _).from _)⟩
theorem Gu.zD {gf n cf at_:Nat} (h:Gu w b vf vd xc sz (.slice (some ⟨gf,0,none⟩) n cf) kS fl da bi w5 W0 k W) (hn:fl.length=n) (hat:at_<n) (f:Fl):
 Gu w b vf vd xc sz (.slice (some ⟨gf,0,none⟩) n cf) kS (fl.set at_ f) da bi w5 W0 k (((W.setCell ⟨gf,at_*3,none⟩ (.bool f.1)).setCell ⟨gf,at_*3+1,none⟩ (.bool f.2.1)).setCell ⟨gf,at_*3+2,none⟩ (.bool f.2.2)):=by
 have hM:∀o:Obj,R5 b (.slice (some ⟨gf,0,none⟩) n cf) kS bi w5.heap.size gf o:=fun _=> .inr (.inl rfl)
 have hk:Kept (R5 b (.slice (some ⟨gf,0,none⟩) n cf) kS bi w5.heap.size) W (((W.setCell ⟨gf,at_*3,none⟩ (.bool f.1)).setCell ⟨gf,at_*3+1,none⟩ (.bool f.2.1)).setCell ⟨gf,at_*3+2,none⟩ (.bool f.2.2)):=
  (((Kept.refl _ W).setCell (p:=⟨gf,_,none⟩) (fun _ _=>hM _) _).setCell (p:=⟨gf,_,none⟩) (fun _ _=>hM _) _).setCell (p:=⟨gf,_,none⟩) (fun _ _=>hM _) _
 have hd:=h.t.fr;rw[hn] at hd;have hg:W.grownBy (((W.setCell ⟨gf,at_*3,none⟩ (.bool f.1)).setCell ⟨gf,at_*3+1,none⟩ (.bool f.2.1)).setCell ⟨gf,at_*3+2,none⟩ (.bool f.2.2)) (some gf):=
  ((aJ W gf _ _).trans (aJ _ gf _ _)).trans (aJ _ gf _ _)
 exact ⟨h.t.zD hn hat f,h.di.grown hg (jJ hd h.di (by decide)),h.kp.trans hk,h.k2.trans hk,h.kf.trans ((((KeepsOthers.setCell _ _ _).from _).trans ((KeepsOthers.setCell _ _ _).from _)).trans ((KeepsOthers.setCell _ _ _).from _))⟩
theorem Gu.next (h:Gu w b vf vd xc sz kY kS fl da bi w5 W0 k W) (hbi:b≠bi) (h1:bi≠w.heap.size) (h2:bi≠w.heap.size+1) (hw:w.heap.size≤bi):Gu w b vf vd xc sz kY kS fl da bi w5 W0 (k+1) (W.setCell ⟨bi,0,none⟩ (.int .i64 ((k+1:Nat):Int))):=by
 have hk:Kept (R5 b kY kS bi w5.heap.size) W (W.setCell ⟨bi,0,none⟩ (.int .i64 ((k+1:Nat):Int))):=(Kept.refl _ W).setCell (p:=⟨bi,0,none⟩) (fun _ _=> .inr (.inr (.inr (.inl rfl)))) _;refine ⟨⟨h.t.blk.far (by simpa using hbi) _,j6 h.t.fr h.di (by decide) _,j6 h.t.dr h.di (by decide) _,h.t.bf,h.t.bd,h.t.kp.setCell (p:=⟨bi,0,none⟩) (fun o ho=>by have:=lt_of_heap ho;simp at this;omega) _,h.t.bp.far (by simpa using fun e=>h1 e.symm) _,h.t.bx.far (by simpa using fun e=>h2 e.symm) _,h.t.hb⟩,?_,h.kp.trans hk,h.k2.trans hk,h.kf.trans ((KeepsOthers.setCell _ _ _).from _)⟩;simpa using h.di.aC 0 (.int .i64 ((k+1:Nat):Int))
end
theorem Gv (k:Nat):(Builtin.zeroCells #[.bool false,.bool false,.bool false] k).toList=uR (List.replicate k Ue):=by
 apply List.ext_getElem?;intro j;have hl:(uR (List.replicate k Ue)).length=k*3:=by rw[JE,List.length_replicate]
 rcases Nat.lt_or_ge j (k*3) with hj|hj
 ·have hr:(List.replicate k Ue)[j/3]? =some Ue:=by rw[List.getElem?_replicate,if_pos (by omega)]
  obtain ⟨g1,g2,g3⟩:=xN _ _ _ hr;have hm:j%3=0∨j%3=1∨j%3=2:=by omega
  have he:(Builtin.zeroCells #[.bool false,.bool false,.bool false] k).toList[j]? =some (.bool false):=by
   simp only[Builtin.zeroCells,Array.getElem?_toList,Array.getElem?_map];rw[Array.getElem?_eq_getElem (by simpa using hj)];simp only[Array.getElem_range,Option.map_some,List.size_toArray,List.length_cons,List.length_nil];rcases hm with h|h|h<;>simp[h]
  rw[he];rcases hm with h|h|h
  ·rw[show j=j/3*3 by omega,g1];rfl
  ·rw[show j=j/3*3+1 by omega,g2];rfl
  ·rw[show j=j/3*3+2 by omega,g3];rfl
 ·rw[List.getElem?_eq_none (by rw[Array.length_toList,size_zeroCells];simpa using hj),List.getElem?_eq_none (by omega)]
theorem Gw (k:Nat):(Builtin.zeroCells #[.int .u8 0] k).toList=cu (List.replicate k 0):=by
 apply List.ext_getElem?;intro j;rcases Nat.lt_or_ge j k with hj|hj
 ·simp only[Builtin.zeroCells,Array.getElem?_toList,Array.getElem?_map];rw[Array.getElem?_eq_getElem (by simpa using hj)];simp[cu,hj,bv,Nat.mod_one]
 ·rw[List.getElem?_eq_none (by rw[Array.length_toList,size_zeroCells];simpa using hj),List.getElem?_eq_none (by simpa[cu] using hj)]
theorem R7:(Tryz.prog.info? 101).map (fun i=>(i.zero,i.size,i.bytes))=some (some (.agg #[.bool false,.bool false,.bool false]),3,3):=by kernel_rfl
theorem O1:∃i,Tryz.prog.info? 101=some i∧i.zero=some (.agg #[.bool false,.bool false,.bool false])∧i.size=3∧i.bytes=3:=by
 have h:=R7;cases hi:Tryz.prog.info? 101 with
 |none=>rw[hi] at h;cases h
 |some i=>
  rw[hi] at h;simp only[Option.map_some,Option.some.injEq,Prod.mk.injEq] at h;exact ⟨i,rfl,h.1,h.2.1,h.2.2⟩
theorem O3:Tryz.prog.underlying 88=some (.slice 101):=by kernel_rfl
end
section
open Go.RowKit Go.Shelf
attribute [local go_sem] Oper.semAt_some
def xO (l:List (Nat × Nat)) (k:Nat):Array Value:= #[.int .i64 ((l[k]?.getD (0,0)).1:Nat),.int .i64 ((l[k]?.getD (0,0)).2:Nat)]
def jK (l:List Fl) (i fr k:Nat):Prop:=∃pre,dD l 0 0=pre++dD (l.drop i) i fr∧pre.length=k
theorem jK.start (l:List Fl):jK l 0 0 0:=⟨[],rfl,rfl⟩
theorem drop_cons {l:List Fl} {i:Nat} (h:i<l.length):l.drop i=dW l i::l.drop (i+1):=by
 rw[List.drop_eq_getElem_cons h];unfold dW;rw[List.getElem?_eq_getElem h];rfl
theorem jK.miss {l:List Fl} {i fr k:Nat} (h:jK l i fr k) (hi:i<l.length) (hf:(dW l i).1=false):jK l (i+1) fr k:=by
 obtain ⟨pre,e,hk⟩:=h;rw[drop_cons hi,dD,if_pos hf] at e;exact ⟨pre,e,hk⟩
theorem jK.pass {l:List Fl} {i fr k:Nat} (h:jK l i fr k) (hi:i<l.length) (hf:(dW l i).1=true) (hfr:¬fr<i):jK l (i+1) (i+1) k:=by
 obtain ⟨pre,e,hk⟩:=h;rw[drop_cons hi,dD,if_neg (by rw[hf];simp),if_neg hfr] at e;exact ⟨pre,e,hk⟩
theorem jK.give {l:List Fl} {i fr k:Nat} (h:jK l i fr k) (hi:i<l.length) (hf:(dW l i).1=true) (hfr:fr<i):jK l (i+1) (i+1) (k+1)∧(dD l 0 0)[k]? =some (fr,i-1):=by
 obtain ⟨pre,e,hk⟩:=h;rw[drop_cons hi,dD,if_neg (by rw[hf];simp),if_pos hfr] at e;refine ⟨⟨pre++ [(fr,i-1)],by rw[e];simp,by simp[hk]⟩,?_⟩;rw[e,List.getElem?_append_right (by omega),hk,Nat.sub_self];rfl
theorem jK.last {l:List Fl} {fr k:Nat} (h:jK l l.length fr k) (hfr:fr<l.length):(dD l 0 0)[k]? =some (fr,l.length-1)∧(dD l 0 0).length=k+1:=by
 obtain ⟨pre,e,hk⟩:=h;rw[List.drop_length,dD,if_pos hfr] at e;constructor
 ·rw[e,List.getElem?_append_right (by omega),hk,Nat.sub_self];rfl
 ·rw[e,List.length_append,hk];rfl
theorem jK.none {l:List Fl} {fr k:Nat} (h:jK l l.length fr k) (hfr:¬fr<l.length):(dD l 0 0).length=k:=by
 obtain ⟨pre,e,hk⟩:=h;rw[List.drop_length,dD,if_neg hfr,List.append_nil] at e;rw[e,hk]
theorem zF {L:List (Nat × Nat)} {k a b:Nat} (h:L[k]? =some (a,b)):xO L k= #[.int .i64 (a:Nat),.int .i64 (b:Nat)]∧k<L.length:=by
 unfold xO;rw[h];exact ⟨rfl,(List.getElem?_eq_some_iff.1 h).1⟩
set_option maxRecDepth 100000 in
set_option maxHeartbeats 2000000 in
theorem LP (n:Nat) (hn:1≤n) (gv b:Nat) (A:Option Addr) (m c:Nat) (l:List Fl) (hm:m≤100000) (hlm:l.length=m) (Q:Nat→Obj→Prop) (w:World)
 (hg:aA w gv 86 #[.pointer (some ⟨b,0,none⟩)]) (_hbl:b<w.heap.size) (hb:∀W,Below w.heap.size w W→∀X,Kept Q W X→X.cell? ⟨b,0,none⟩=some (.slice A m c)∧mJ X A m c l) (hQ:¬Q gv (.cells #[.pointer (some ⟨b,0,none⟩)] 86 (0,0))):
 IQ Fence.wide n Tryz.prog 137 #[.pointer (some ⟨gv,0,none⟩)] (xO (dD l 0 0)) (dD l 0 0).length (Kept Q) w:=fun lb J W hW _ hY h0=>by
 have hg':=hg.below hW hg.lt;have HB:=Lib.hid (hb W hW);have HY:=Lib.hid hY;clear hY hb;refine callsIn_of_wp Tryz.func137 rfl trivial ?_ rfl;simp only[Tryz.ntmps137,List.size_toArray,List.length_cons,List.length_nil,Nat.reduceAdd,Nat.reduceSub,Array.replicate_succ,Array.replicate_zero,List.push_toArray,List.append_toArray,List.nil_append,List.cons_append];have hcw:=hg'.cell 0;simp at hcw;obtain ⟨hc0,V7⟩:=HB.out W (Kept.refl _ _);refine ji ?_
 gi_wp2
 refine wpIn_label ?_
 gi_wp2
 gi_loopw [3,11] (fun s3 i wr=>∃i' fr k:Nat,i'≤m+1∧i= .int .i64 i'∧s3= .int .i64 fr∧fr≤i'∧((i'≤m∧jK l i' fr k)∨(i'=m+1∧k=(dD l 0 0).length))∧J k wr∧Kept Q W wr) (fun _ i _=>m+1-(intOf i).toNat)
 case atStart=>exact ⟨0,0,0,Nat.zero_le _,by simp,by simp,Nat.le_refl _,.inl ⟨Nat.zero_le _,jK.start l⟩,h0,Kept.refl _ _⟩
 case round=>
  obtain ⟨i',fr,k,hi1,rfl,rfl,hfr,hat,hJs,hnx⟩:=hrel;clear hc0 V7;obtain ⟨hc0,V7⟩:=HB.out wr hnx;have hgr:=hg'.kept hnx hQ;have hcg:=hgr.cell 0;simp at hcg;rcases Nat.lt_trichotomy i' m with hlt|heq|hgt
  ·have wY:jK l i' fr k:=by rcases hat with h|h;exact h.2;omega
   have hhas:Calls Tryz.prog 85 #[.slice A m c,.int .i64 (i':Nat),.int .i64 0] wr fun e w'=>e= .returned (.bool (dW l i').1)∧wr=w':=zA V7 i' (by omega) 0 (by omega)
   clear hat;cases hf:(dW l i').1 with
   |false=>
    rw[hf] at hhas;have wZ:=Lib.hid hhas;have HF:=Lib.hid hf;have HAT:=Lib.hid wY;clear hhas hf wY
    gi_wp2_with (refine ⟨trivial,?_⟩;refine ((callsIn_wide (n:=n-1)).2 wZ.out).mono ?_;rintro e1 w1 ⟨rfl,rfl⟩)
    exact ⟨⟨i'+1,fr,k,by omega,by go_num,rfl,by omega,.inl ⟨by omega,HAT.out.miss (by omega) HF.out⟩,hJs,hnx⟩,by simp[intOf]<;>omega⟩
   |true=>
    rw[hf] at hhas;have wZ:=Lib.hid hhas;by_cases hfi:fr<i'
    ·obtain ⟨h5,h6⟩:=wY.give (by omega) hf hfi;obtain ⟨h7,h8⟩:=zF h6;have EF:=HY.out k wr h8 hJs;rw[h7,show ((i'-1:Nat):Int)=(i':Int)-1 by omega] at EF;obtain ⟨fn,tmps,assign,body,hy,hR⟩:=EF;have H5:=Lib.hid h5;clear hhas hf wY h5 h6 h7 h8
     gi_wp2_with (refine ⟨trivial,?_⟩;refine ((callsIn_wide (n:=n-1)).2 wZ.out).mono ?_;rintro e1 w1 ⟨rfl,rfl⟩)
     refine hR.mono ?_;rintro e W3 ⟨rfl,hJ3,hk3⟩
     gi_wp2_with fail
     exact ⟨⟨i'+1,i'+1,k+1,by omega,by go_num,by go_num,Nat.le_refl _,.inl ⟨by omega,H5.out⟩,hJ3,hnx.trans hk3⟩,by simp[intOf]<;>omega⟩
    ·have h5:=wY.pass (by omega) hf hfi;have H5:=Lib.hid h5;clear hhas hf wY h5
     gi_wp2_with (refine ⟨trivial,?_⟩;refine ((callsIn_wide (n:=n-1)).2 wZ.out).mono ?_;rintro e1 w1 ⟨rfl,rfl⟩)
     refine ⟨fun f h=>(by cases h),?_⟩
     gi_wp2_with fail
     exact ⟨⟨i'+1,i'+1,k,by omega,by go_num,by go_num,Nat.le_refl _,.inl ⟨by omega,H5.out⟩,hJs,hnx⟩,by simp[intOf]<;>omega⟩
  ·subst heq;have wY:jK l i' fr k:=by rcases hat with h|h;exact h.2;omega
   clear hat;rw[←hlm] at wY;by_cases hfi:fr<i'
   ·obtain ⟨h5,h6⟩:=wY.last (by omega);obtain ⟨h7,h8⟩:=zF h5;have EF:=HY.out k wr h8 hJs;rw[h7,show ((l.length-1:Nat):Int)=(i':Int)-1 by omega] at EF;obtain ⟨fn,tmps,assign,body,hy,hR⟩:=EF;have H6:=Lib.hid h6;clear wY h5 h6 h7 h8
    gi_wp2_with fail
    refine ⟨trivial,?_⟩
    gi_wp2_with fail
    refine hR.mono ?_;rintro e W3 ⟨rfl,hJ3,hk3⟩
    gi_wp2_with fail
    exact ⟨⟨i'+1,i'+1,k+1,by omega,by go_num,by go_num,Nat.le_refl _,.inr ⟨rfl,H6.out.symm⟩,hJ3,hnx.trans hk3⟩,by simp[intOf]<;>omega⟩
   ·have h6:=wY.none (by omega);have H6:=Lib.hid h6;clear wY h6
    gi_wp2_with fail
    refine ⟨trivial,?_⟩
    gi_wp2_with fail
    refine ⟨fun f h=>(by cases h),?_⟩
    gi_wp2_with fail
    exact ⟨⟨i'+1,i'+1,k,by omega,by go_num,by go_num,Nat.le_refl _,.inr ⟨rfl,H6.out.symm⟩,hJs,hnx⟩,by simp[intOf]<;>omega⟩
  ·have e:i'=m+1:=by omega
   have ek:k=(dD l 0 0).length:=by rcases hat with h|h;omega;exact h.2
   subst e;have Dl:J (dD l 0 0).length wr:=by rw[←ek];exact hJs
   clear ek hJs hat
   gi_wp2
   rw[Exit.noGoto_normal]
   go_end0
   exact ⟨⟨_,rfl⟩,Dl⟩
end
section
open Go.RowKit Go.Shelf
attribute [local go_sem] Oper.semAt_some
theorem LQ (b:Nat) (w:World):
 Calls Tryz.prog 92 #[.pointer (some ⟨b,0,none⟩)] w fun e w'=>e= .returned (.func (.func 137) #[] #[.pointer (some ⟨w.heap.size,0,none⟩)])∧w'=w.alloc (.cells #[.pointer (some ⟨b,0,none⟩)] 86):=by
 go_enter Tryz.func92,Tryz.ntmps92;go_wp2;go_ret;exact ⟨rfl,rfl⟩
def Ih (x:Nk):Array Value:= #[.int .i64 x.sn,.bool x.part,.int .i64 x.fr,.int .i64 x.lt]
theorem JG (sn:Int) (gs:Nat) (x:Nat × Nat) (w:World) (h:w.cell? ⟨gs,0,none⟩=some (.int .i64 sn)) (hg:gs<w.heap.size):
 Calls Tryz.prog 93 #[.int .i64 (x.1:Nat),.int .i64 (x.2:Nat),.pointer (some ⟨gs,0,none⟩)] w fun e w'=>e= .returned (.agg (Ih ⟨sn,true,(x.1:Nat),(x.2:Nat)⟩))∧Below w.heap.size w w':=by
 have hz:=aA.new w 116 (Ih ⟨sn,true,(x.1:Nat),(x.2:Nat)⟩);have HZ:=Lib.hid hz;clear hz;go_enter Tryz.func93,Tryz.ntmps93;go_wp2;refine bodyPost_ret (v:= .agg (Ih ⟨sn,true,(x.1:Nat),(x.2:Nat)⟩)) ?_ rfl ⟨rfl,(Below.refl _ w).alloc (Nat.le_refl _) _⟩;rw[kC rfl];have c0:=HZ.out.cell 0;have c1:=HZ.out.cell 1;have c2:=HZ.out.cell 2;have c3:=HZ.out.cell 3;simp[Ih] at c0 c1 c2 c3;go_simp;rfl
end
section
open Go.RowKit Go.Shelf
attribute [local go_sem] Oper.semAt_some
theorem oh:∀(l:List Fl) (i fr:Nat),(dD l i fr).length≤l.length+1
 | [],i,fr=>by unfold dD;split<;>simp
 |f::r,i,fr=>by
  have h1:=oh r (i+1) fr;have h2:=oh r (i+1) (i+1);unfold dD;split
  ·simp;omega
  ·split<;>simp<;>omega
theorem zG {w w':World} {base sz:Nat} {e:TypeId} {n:Nat} {v:Value} {xs:List Value} {row:Option Nat} (h:w.ownsRow base e sz v n xs) (hg:w.grownBy w' row) (hr:∀r,row=some r→∃o:Obj,w.heap[r]? =some o∧o.isCells=false):w'.ownsRow base e sz v n xs:=by
 refine h.kept hg ?_;rcases h.2 with ⟨rfl,_⟩|⟨q,cap,cur,rfl,q1,q2,_⟩
 ·exact .inl rfl
 ·refine .inr (fun e'=> ?_);obtain ⟨o',ho',hc⟩:=hr q e'.symm;rw[q2] at ho';cases ho';cases hc
theorem iY {w:World} {base sz g:Nat} {e t:TypeId} {n:Nat} {v:Value} {xs:List Value} {cs:Array Value} (h:w.ownsRow base e sz v n xs) (hb:aA w g t cs) (ht:e≠t):v.ownBlock≠some g:=by
 intro e';rcases h.2 with ⟨rfl,_⟩|⟨q,cap,cur,rfl,q1,q2,_⟩
 ·cases e'
 ·have e2:q=g:=by injection e'
  subst e2;rw[show w.heap[q]? =_ from hb] at q2;cases q2;exact ht rfl
theorem O4 (w:World) (x:Nk):bP (w.alloc (.cells (Ih x) 116)) (some ⟨w.heap.size,0,none⟩) 1 1 [x]:=
 ⟨rfl,Nat.le_refl _,by omega,fun _=>⟨_,rfl,by simp,fun j r hr=>by
  cases j with
  |zero=>
   simp at hr;subst hr;have b:=aA.new w 116 (Ih x);exact ⟨b.cell 0,b.cell 1,b.cell 2,b.cell 3⟩
  |succ j=>simp at hr⟩⟩
def V8 (t4:Nat) (sn:Nat) (L:List (Nat × Nat)) (w2:World) (k:Nat) (W:World):Prop:=
 (∃v,W.ownsRow w2.heap.size 116 4 v ((L.take k).map (dP sn)).length (qg ((L.take k).map (dP sn)))∧aA W t4 40 #[v])∧Kept (fun j _=>j=t4∨w2.heap.size≤j) w2 W
theorem O5 (t4 sn:Nat) (L:List (Nat × Nat)) (w2:World):OwnFrom w2.heap.size (V8 t4 sn L w2):=fun k X Y row hs hg hr=>by
 have hr':∀r,row=some r→∃o:Obj,X.heap[r]? =some o∧o.isCells=false:=fun r e=>(hr r e).2
 obtain ⟨⟨v,h1,h2⟩,h3⟩:=hs;exact ⟨⟨v,zG h1 hg hr',eO h2 hg hr'⟩,h3.trans ((Kept.refl _ X).grown hg (fun j e _ _=> .inr (hr j e).1))⟩
theorem El (a b:List Nk):qg (a++b)=qg a++qg b:=by simp[qg]
set_option maxRecDepth 100000 in
set_option maxHeartbeats 2000000 in
theorem zH (gv b gs:Nat) (A:Option Addr) (m c:Nat) (l:List Fl) (sn:Nat) (w:World) (hm:m≤100000) (hg:aA w gv 86 #[.pointer (some ⟨b,0,none⟩)]) (hbl:b<w.heap.size) (hbc:w.cell? ⟨b,0,none⟩=some (.slice A m c)) (hfs:mJ w A m c l)
 (hs:w.cell? ⟨gs,0,none⟩=some (.int .i64 (sn:Nat))) (hgs:gs<w.heap.size):
 Calls Tryz.prog 91 #[.func (.func 137) #[] #[.pointer (some ⟨gv,0,none⟩)],.func (.func 93) #[] #[.pointer (some ⟨gs,0,none⟩)]] w fun e w'=>∃v,e= .returned v∧
  w'.ownsRow w.heap.size 116 4 v ((dD l 0 0).map (dP sn)).length (qg ((dD l 0 0).map (dP sn)))∧Below w.heap.size w w':=by
 obtain ⟨i0,hi,hz0,hz1,hz2⟩:=ug;have lG:Tryz.prog.follows .mixedOrders=true:=by kernel_rfl
 obtain ⟨L,hL⟩:∃L,dD l 0 0=L:=⟨_,rfl⟩
 have Xl:L.length≤100001:=by rw[←hL];have:=oh l 0 0;have:=hfs.len;omega
 obtain ⟨w2,hw2⟩:∃w2,(w.alloc (.cells #[.func (.func 93) #[] #[.pointer (some ⟨gs,0,none⟩)]] 161)).alloc (.cells #[.slice none 0 0] 40)=w2:=⟨_,rfl⟩
 have hB2:Below w.heap.size w w2:=by rw[←hw2];exact ((Below.refl _ w).alloc (Nat.le_refl _) _).alloc (by simp) _
 have hz:w2.heap.size=w.heap.size+2:=by rw[←hw2];simp
 have hb3:aA w2 w.heap.size 161 #[.func (.func 93) #[] #[.pointer (some ⟨gs,0,none⟩)]]:=by rw[←hw2];exact (aA.new w _ _).alloc _
 have hb4:aA w2 (w.heap.size+1) 40 #[.slice none 0 0]:=by
  rw[←hw2];have:=aA.new (w.alloc (.cells #[.func (.func 93) #[] #[.pointer (some ⟨gs,0,none⟩)]] 161)) 40 #[.slice none 0 0];simpa using this
 have hg2:=hg.below hB2 hg.lt;have alF:=hg.lt;have HHB:∀W,Below w2.heap.size w2 W→∀X,Kept (fun j _=>j=w.heap.size+1∨w2.heap.size≤j) W X→X.cell? ⟨b,0,none⟩=some (.slice A m c)∧mJ X A m c l:=fun W hW X hX=>by
  have h1:Below w.heap.size w X:=(hB2.trans (hW.mono (by omega))).trans (hX.below (B:=w.heap.size) (fun j _ hj=>by omega) (by have:=hB2.size;have:=hW.size;omega));exact ⟨(h1.cell (p:=⟨b,0,none⟩) hbl).trans hbc,hfs.below h1⟩
 have HSX:∀X,Kept (fun j _=>j=w.heap.size+1∨w2.heap.size≤j) w2 X→X.cell? ⟨gs,0,none⟩=some (.int .i64 (sn:Nat)):=fun X hX=>by
  have h1:Below w.heap.size w X:=hB2.trans (hX.below (B:=w.heap.size) (fun j _ hj=>by omega) (by have:=hB2.size;omega));exact (h1.cell (p:=⟨gs,0,none⟩) hgs).trans hs
 have ZT:=Lib.hid HHB;have ae6:=Lib.hid HSX;have HB2:=Lib.hid hB2;have HZ:=Lib.hid hz;have ae7:=Lib.hid hb3;have ae8:=Lib.hid hb4;have ru:=Lib.hid hg2;have HLL:=Lib.hid Xl;have HL:=Lib.hid hL;have ae9:=Lib.hid hgs;clear HHB HSX hB2 hz hb3 hb4 hg hfs hs hg2 Xl hL hbc hgs;refine (callsIn_wide (n:=5)).1 ?_;refine callsIn_of_wp_marks Tryz.func91 rfl trivial ?_ rfl;simp only[Tryz.ntmps91,List.size_toArray,List.length_cons,List.length_nil,Nat.reduceAdd,Nat.reduceSub,Array.replicate_succ,Array.replicate_zero,List.push_toArray,List.append_toArray,List.nil_append,List.cons_append];refine wpIn_wide.2 ?_;go_wp2_with fail;clear hw2;apply wpIn_wide (n:=5).1;apply l9 (gf:=137) (lb:= #[.pointer (some ⟨gv,0,none⟩)]) rfl (by omega) rfl trivial (enters_of Tryz.func137 (by kernel_rfl) rfl)
  (LP _ (by omega) gv b A m c l hm (by exact (ZT.out w2 (Below.refl _ _) w2 (Kept.refl _ _)).2.len) (fun j _=>j=w.heap.size+1∨w2.heap.size≤j) w2 ru.out (by have:=HZ.out;omega) ZT.out (by have:=HZ.out;omega))
  Kept.trans (fun W l' o o' hl ho hc _=>(Kept.refl _ W).grown (grownBy_putObj' W l' o') (fun j e _ _=>by cases e;exact .inr hl)) (Below.refl _ _) (fun _=>rfl)
  (V8 (w.heap.size+1) sn L w2) (O5 _ _ _ _) ⟨⟨_,by simpa[qg] using World.ownsRow_nil _ _ _ _,ae8.out⟩,Kept.refl _ _⟩
 case hassign=>
  intro l' k W K hK;simp only[xO]
  gi_wp2
  exact hK
 case hbody=>
  intro l' k W hk hI;rw[HL.out] at hk;obtain ⟨⟨v,hrow,hb4⟩,hkp⟩:=hI;obtain ⟨x,hx⟩:∃x,L[k]? =some x:=⟨_,List.getElem?_eq_getElem hk⟩
  have hxv:(dD l 0 0)[k]?.getD (0,0)=x:=by rw[HL.out,hx];rfl
  rw[hxv];have htk:(L.take (k+1)).map (dP sn)=(L.take k).map (dP sn)++ [dP sn x]:=by
   rw[List.take_add_one,hx];simp
  have hkl:((L.take k).map (dP sn)).length≤100001:=by rw[List.length_map,List.length_take];have:=HLL.out;omega
  have hWz:=hkp.size;have hb3:aA W w.heap.size 161 #[.func (.func 93) #[] #[.pointer (some ⟨gs,0,none⟩)]]:=ae7.out.kept hkp (by have:=HZ.out;omega);have HGS:=Lib.hid (show W.drew.cell? ⟨gs,0,none⟩=some (.int .i64 (sn:Nat)) from ae6.out W hkp);have HGL:=Lib.hid (show gs<W.drew.heap.size by have:=ae9.out;have:=HZ.out;simp;omega);have Ll:=Lib.hid (fun (w5:World) (hb5:Below W.drew.heap.size W.drew w5)=>(own_below hrow.drew' hb5 (Nat.le_refl _)).alloc (.cells (Ih ⟨sn,true,(x.1:Nat),(x.2:Nat)⟩) 116));have uP:=Lib.hid hb4;have HB3:=Lib.hid hb3;have HKL:=Lib.hid hkl;have HW2:=Lib.hid hWz;have XD:=Lib.hid hkp;have Lx:=Lib.hid htk;have s0:W.drew.cell? ⟨w.heap.size+1,0,none⟩=some v:=hb4.drew.cell 0;have s1:W.drew.cell? ⟨w.heap.size,0,none⟩=some (.func (.func 93) #[] #[.pointer (some ⟨gs,0,none⟩)]):=hb3.drew.cell 0;clear hb4 hb3 hkl hWz hkp htk hrow hx hxv hk
  gi_wp2
  refine sD (S:=fun w'=>w'.cell? ⟨w.heap.size+1,0,none⟩=some v∧w'.cell? ⟨w.heap.size,0,none⟩=some (.func (.func 93) #[] #[.pointer (some ⟨gs,0,none⟩)])) (L:= [7]) lG (by kernel_rfl) ?hout ?alI
  case hout=>
   rintro ⟨a',w',hh⟩;exact hh
  have hHeld:=(show (fun w':World=>w'.cell? ⟨w.heap.size+1,0,none⟩=some v∧w'.cell? ⟨w.heap.size,0,none⟩=some (.func (.func 93) #[] #[.pointer (some ⟨gs,0,none⟩)])) W.drew from ⟨s0,s1⟩);refine tkX [6,7] 0 ?_ rfl (Or.inl ⟨by rfl,?_⟩) hHeld ?_;rotate_left
  ·intro w' hSw;obtain ⟨hS1,hS2⟩:=hSw;go_simp
   try with_reducible rfl
  try simp only[Act.put,zzA,zzE,yo,UM,zzD]
  refine tkX [4,5,6,7] 1 ?_ rfl (Or.inl ⟨by rfl,?_⟩) hHeld ?_;rotate_left
  ·intro w' hSw;obtain ⟨hS1,hS2⟩:=hSw;go_simp
   try with_reducible rfl
  try simp only[Act.put,zzA,zzE,zzF,yo,UM,zzD]
  refine tkY 2 ?_ rfl (Or.inl ⟨by rfl,?_⟩) hHeld ?_;rotate_left
  ·intro w' hSw;go_simp
   try with_reducible rfl
  try simp only[Act.put,zzA,zzE,zzF,yo,UM,zzD]
  refine tkY 3 ?_ rfl (Or.inl ⟨by rfl,?_⟩) hHeld ?_;rotate_left
  ·intro w' hSw;go_simp
   try with_reducible rfl
  try simp only[Act.put,zzA,zzE,zzF,yo,UM,zzD]
  refine bu (i:=4) rfl (by kernel_rfl) (by rfl) (fun K hK=> ?_);go_simp;refine (JG sn gs x W.drew HGS.out HGL.out).mono ?_;rintro e5 w5 ⟨rfl,hb5⟩;have q0:=(uP.out.drew.below hb5 uP.out.drew.lt).cell 0;have q1:=(HB3.out.drew.below hb5 HB3.out.drew.lt).cell 0;simp at q0 q1;refine hK _ _ (show (fun w':World=>w'.cell? ⟨w.heap.size+1,0,none⟩=some v∧w'.cell? ⟨w.heap.size,0,none⟩=some (.func (.func 93) #[] #[.pointer (some ⟨gs,0,none⟩)])) _ from ⟨q0,q1⟩) ?_;clear hK K hHeld;have hHeld:=(show (fun w':World=>w'.cell? ⟨w.heap.size+1,0,none⟩=some v∧w'.cell? ⟨w.heap.size,0,none⟩=some (.func (.func 93) #[] #[.pointer (some ⟨gs,0,none⟩)])) _ from ⟨q0,q1⟩)
  try simp only[Act.put,zzA,zzE,zzF,yo,UM,zzD]
  refine bu (i:=5) rfl (by kernel_rfl) (by rfl) (fun K hK=> ?_);go_simp;have q0:=((uP.out.drew.below hb5 uP.out.drew.lt).alloc (.cells (Ih ⟨sn,true,(x.1:Nat),(x.2:Nat)⟩) 116)).cell 0;have q1:=((HB3.out.drew.below hb5 HB3.out.drew.lt).alloc (.cells (Ih ⟨sn,true,(x.1:Nat),(x.2:Nat)⟩) 116)).cell 0;simp at q0 q1;refine hK _ _ (show (fun w':World=>w'.cell? ⟨w.heap.size+1,0,none⟩=some v∧w'.cell? ⟨w.heap.size,0,none⟩=some (.func (.func 93) #[] #[.pointer (some ⟨gs,0,none⟩)])) _ from ⟨q0,q1⟩) ?_;clear hK K hHeld;have hHeld:=(show (fun w':World=>w'.cell? ⟨w.heap.size+1,0,none⟩=some v∧w'.cell? ⟨w.heap.size,0,none⟩=some (.func (.func 93) #[] #[.pointer (some ⟨gs,0,none⟩)])) _ from ⟨q0,q1⟩)
  try simp only[Act.put,yo,UM,zzD]
  refine bu (i:=6) rfl (by kernel_rfl) (by rfl) (fun K hK=> ?_);refine uh _ _ _ 40 rfl w2.heap.size 116 i0 (.agg #[.int .i64 0,.bool false,.int .i64 0,.int .i64 0]) 32 zb hi hz0 hz1 hz2 rfl v ((L.take k).map (dP sn)).length (qg ((L.take k).map (dP sn))) (by rfl) (Ll.out w5 hb5) (some ⟨w5.heap.size,0,none⟩) 1 1 [dP sn x] (by rfl) (O4 w5 (dP sn x)) (by have:=HKL.out;unfold maxLen;omega) (by have:=HKL.out;omega) (by have:=HW2.out;have:=hb5.size;simp at this ⊢;omega) ?_;intro v7 w7 lg fP;have Em:w7.ownsRow w2.heap.size 116 4 v7 ((L.take k).map (dP sn)++ [dP sn x]).length (qg ((L.take k).map (dP sn)++ [dP sn x])):=by rw[El,List.length_append];exact lg
  obtain ⟨A7,c7,rfl,_⟩:=bP.cO Em;have q0:=(uP.out.drew.below hb5 uP.out.drew.lt).alloc (.cells (Ih ⟨sn,true,(x.1:Nat),(x.2:Nat)⟩) 116);have q1:=(HB3.out.drew.below hb5 HB3.out.drew.lt).alloc (.cells (Ih ⟨sn,true,(x.1:Nat),(x.2:Nat)⟩) 116);have b4:=q0.grown fP (fun e=>iY (Ll.out w5 hb5) q0 (by decide) e.symm);have b3:=q1.grown fP (fun e=>iY (Ll.out w5 hb5) q1 (by decide) e.symm);have q0:=b4.cell 0;have q1:=b3.cell 0;have q2:=b4.frozen 0;simp at q0 q1;refine hK _ _ (show (fun w':World=>w'.cell? ⟨w.heap.size+1,0,none⟩=some v∧w'.cell? ⟨w.heap.size,0,none⟩=some (.func (.func 93) #[] #[.pointer (some ⟨gs,0,none⟩)])) _ from ⟨q0,q1⟩) ?_;clear hK K hHeld;have hHeld:=(show (fun w':World=>w'.cell? ⟨w.heap.size+1,0,none⟩=some v∧w'.cell? ⟨w.heap.size,0,none⟩=some (.func (.func 93) #[] #[.pointer (some ⟨gs,0,none⟩)])) _ from ⟨q0,q1⟩);simp only[Act.put,List.getElem_toArray,List.getElem_cons_zero,List.getElem_cons_succ,List.setIfInBounds_toArray,List.set_cons_zero,List.set_cons_succ];refine aQ (i:=7) rfl (by kernel_rfl) (by kernel_rfl) (by rfl) (fun K hK=> ?_);go_simp;refine hK _ _ ?_;clear hK K
  try simp only[Act.put,zzA,zzE,zzF,yo,UM,zzD]
  refine aU (by kernel_rfl) ?_ _;have hrw:=Ll.out w5 hb5;have hvb:∀j,v.ownBlock=some j→w2.heap.size≤j:=fun j e=>(hrw.lt j e).1
  have ZU:∀j,(Value.slice A7 ((L.take k).map (dP sn)++ [dP sn x]).length c7).ownBlock=some j→w2.heap.size≤j:=fun j e=>(Em.lt j e).1
  have hq:∀j o,v.ownBlock=some j→(w5.alloc (.cells (Ih ⟨sn,true,(x.1:Nat),(x.2:Nat)⟩) 116)).heap[j]? =some o→o.isCells=true:=fun j o e ho=>by
   rcases hrw.2 with ⟨rfl,_⟩|⟨q,cap,cur,rfl,q1,q2,_⟩
   ·cases e
   ·have e2:q=j:=by injection e
    subst e2;rw[q2] at ho;cases ho;rfl
  have NJ:KeepsFrom w2.heap.size W (w7.setCell ⟨w.heap.size+1,0,none⟩ (.slice A7 ((L.take k).map (dP sn)++ [dP sn x]).length c7)):=by
   refine ((KeepsOthers.drew W).from _).trans (KeepsFrom.trans (Y:=w5) ⟨hb5.size,fun k o _ hk _=>(hb5.block k (lt_of_heap hk)).trans hk⟩ ?_);exact ((KeepsOthers.alloc w5 _).from _).trans (((KeepsOthers.of_grownBy fP hq).from _).trans ((KeepsOthers.setCell _ _ _).from _))
  have Ke:Kept (fun j _=>j=w.heap.size+1∨w2.heap.size≤j) W (w7.setCell ⟨w.heap.size+1,0,none⟩ (.slice A7 ((L.take k).map (dP sn)++ [dP sn x]).length c7)):=
   (((((Kept.refl _ W).drew.trans (Kept.fq hb5)).alloc _).grown fP (fun j hj _ _=> .inr (hvb j hj)))).setCell (p:=⟨w.heap.size+1,0,none⟩) (fun _ _=> .inl rfl) _
  have hI9:V8 (w.heap.size+1) sn L w2 (k+1) (w7.setCell ⟨w.heap.size+1,0,none⟩ (.slice A7 ((L.take k).map (dP sn)++ [dP sn x]).length c7)):=by
   refine ⟨⟨.slice A7 ((L.take k).map (dP sn)++ [dP sn x]).length c7,?_,by simpa using b4.aC 0 (.slice A7 ((L.take k).map (dP sn)++ [dP sn x]).length c7)⟩,XD.out.trans Ke⟩;rw[Lx.out];refine ownsRow_setCell_other Em ?_ _;intro e;have h8:w2.heap.size≤w.heap.size+1:=ZU _ e;have h9:=HZ.out;omega
  have e7:((L.take k).map (dP sn)++ [dP sn x]).length=min k L.length+1:=by simp
  rw[e7] at NJ Ke hI9;have HF:=Lib.hid NJ;have H9:=Lib.hid Ke;have HI9:=Lib.hid hI9;clear NJ Ke hI9 hvb ZU hq lg Em fP hrw b4 b3 hb5;exact ⟨HF.out,H9.out,HI9.out⟩
 case hdone=>
  intro D W hD hI Fs;obtain ⟨⟨v,hrow,hbk⟩,hkp⟩:=hI;rw[HL.out,List.take_of_length_le (Nat.le_refl _)] at hrow;obtain ⟨Av,cv,rfl,_,_⟩:=bP.cO (l:=L.map (dP sn)) hrow;have hl:(L.map (dP sn)).length=L.length:=by simp
  have hzz:=HZ.out;have H7:w.heap.size+1<W.heap.size:=hbk.lt;have hDn:D≠w.heap.size+1:=by omega
  have l0:=hbk.cell 0;have lf:=hbk.frozen 0;simp at l0;have hD1:(W.setCell ⟨w.heap.size+1,0,none⟩ (.slice Av (L.map (dP sn)).length cv)).heap[D]? =some (.deferred (some [])):=(Below.heap_setCell W ⟨w.heap.size+1,0,none⟩ (.slice Av (L.map (dP sn)).length cv) D hDn).trans Fs;have hv1:(W.setCell ⟨w.heap.size+1,0,none⟩ (.slice Av (L.map (dP sn)).length cv)).ownsRow w2.heap.size 116 4 (.slice Av (L.map (dP sn)).length cv) (L.map (dP sn)).length (qg (L.map (dP sn))):=ownsRow_setCell_other hrow (fun e=>by have:=(hrow.lt _ e).1;have e3:(⟨w.heap.size+1,0,none⟩:Addr).block=w.heap.size+1:=rfl;omega) (.slice Av (L.map (dP sn)).length cv);have hb1:aA (W.setCell ⟨w.heap.size+1,0,none⟩ (.slice Av (L.map (dP sn)).length cv)) (w.heap.size+1) 40 #[.slice Av (L.map (dP sn)).length cv]:=by simpa using hbk.aC 0 (.slice Av (L.map (dP sn)).length cv)
  have hr:∀r,some D=some r→∃o:Obj,(W.setCell ⟨w.heap.size+1,0,none⟩ (.slice Av (L.map (dP sn)).length cv)).heap[r]? =some o∧o.isCells=false:=fun r e=>by cases e;exact ⟨_,hD1,rfl⟩
  have hb2:=eO hb1 (grownBy_putObj' _ D (.deferred none)) hr;have hv2:=zG hv1 (grownBy_putObj' _ D (.deferred none)) hr;have ZV:Below w.heap.size w ((W.setCell ⟨w.heap.size+1,0,none⟩ (.slice Av (L.map (dP sn)).length cv)).putObj D (.deferred none)):=by
   have e1:=HB2.out.trans (hkp.below (B:=w.heap.size) (fun j _ hj=>by omega) (by omega));exact (e1.setCell (p:=⟨w.heap.size+1,0,none⟩) (by simp) (.slice Av (L.map (dP sn)).length cv)).grown (grownBy_putObj' _ D (.deferred none)) (by have:=e1.size;simp[World.setCell];omega) (fun j hj=>by cases hj;omega)
  have Oe:=Lib.hid (aW (base':=w.heap.size) hv2 (by omega));have Cq:=Lib.hid ZV;have HD1:=Lib.hid hD1;have H2:=Lib.hid hb2;rw[hl] at HD1 Cq Oe H2;clear hrow hbk hkp hv1 hb1 hb2 hv2 ZV hD1 Fs hr
  gi_wp2
  go_wp2;have c2:=H2.out.cell 0;refine ⟨by simp,.inl ⟨_,_,rfl,run_takeDeferred HD1.out,?_⟩⟩;refine ⟨.slice Av L.length cv,by simp[results,Tryz.results91,go_sem,c2],.slice Av L.length cv,rfl,?_,Cq.out⟩;rw[HL.out,hl];exact Oe.out
end
section
open Go.RowKit Go.Shelf
attribute [local go_sem] Oper.semAt_some
theorem R8 {k:Nat} {l:List Fl} (h:k≤l.length):iw k l=l:=by
 unfold iw;rw[show k-l.length=0 by omega];simp
def Gx (p:Sp):Prop:=∀k,p.size=some k→k≤p.fl.length
theorem CZ {sn:Nat} {p:Sp} {k:Nat} (hz:Gx p) (hs:p.size=some k):iX sn (some p)=(dD p.fl 0 0).map (dP sn):=by
 unfold iX;simp only[hs];rw[R8 (hz k hs)]
theorem C4 {sn:Nat} {p:Sp} (hs:p.size=none):iX sn (some p)=(dD p.fl 0 0).map (dP sn)++ [⟨sn,true,p.fl.length,32767⟩]:=by
 unfold iX;simp only[hs]
def V9 (w:World) (l:List Nk) (e:Ending) (w':World):Prop:=
 ∃v,e= .returned v∧w'.ownsRow w.heap.size 116 4 v l.length (qg l)∧Below w.heap.size w w'
set_option maxRecDepth 10000 in
set_option maxHeartbeats 2000000 in
theorem En (sn:Nat) (w:World):Calls Tryz.prog 43 #[.int .i64 (sn:Nat),.pointer none] w (V9 w (iX sn none)):=by
 have b0:=aA.new w 3 #[.int .i64 (sn:Nat)];have hB:=(Below.refl w.heap.size w).alloc (Nat.le_refl _) (.cells #[.int .i64 (sn:Nat)] 3);have c0:=b0.cell 0;simp at c0;have HB:=Lib.hid hB;clear hB b0;go_enter Tryz.func43,Tryz.ntmps43;go_wp2;go_ret;refine ⟨_,rfl,?_,HB.out.alloc (by simp) _⟩;have hr:=aW (base':=w.heap.size) (World.ownsRow_lit (e:=116) (size:=4) (w.alloc (.cells #[.int .i64 (sn:Nat)] 3)) #[.int .i64 (sn:Nat),.bool false,.int .i64 0,.int .i64 0] 1 (Nat.le_refl _) (by unfold maxLen;omega) (by rfl)) (by simp);simpa[iX,qg] using hr
set_option maxRecDepth 100000 in
set_option maxHeartbeats 4000000 in
theorem Eo (sn:Nat) (b:Nat) (p:Sp) (vf vd:Value) (w:World) (h:pE w b p vf vd) (ho:wX p) (hz:Gx p):
 Calls Tryz.prog 43 #[.int .i64 (sn:Nat),.pointer (some ⟨b,0,none⟩)] w (V9 w (iX sn (some p))):=by
 obtain ⟨i0,hi,hz0,hz1,hz2⟩:=ug;obtain ⟨A,c,rfl,hfs⟩:=mJ.cO h.fr;obtain ⟨Ad,cd,rfl,_,_⟩:=aP h.dr;have hle:=ho.le;obtain ⟨m,hm⟩:∃m,p.fl.length=m:=⟨_,rfl⟩
 have hcap:=hfs.cap;have hmx:=hfs.mx;have hgl:=oh p.fl 0 0;rw[hm] at hfs hle hcap hgl;have hb:=h.blk;rw[hm] at hb;have hbl:=hb.lt;have z0:=hb.cell 0;have z1:=hb.cell 1;have z2:=hb.cell 2;simp at z0 z1 z2;have hsi:decide ((m:Int)<bY p)=false:=by
  refine decide_eq_false ?_;unfold bY;cases hs:p.size with
  |none=>dsimp only;omega
  |some k=>have:=hz k hs;dsimp only;omega
 have b0:=aA.new w 3 #[.int .i64 (sn:Nat)];have b1:=aA.new (w.alloc (.cells #[.int .i64 (sn:Nat)] 3)) 90 #[.slice A m c,.slice Ad p.da.length cd,.int .i64 (bY p)];rw[World.size_alloc] at b1;have XA:=b0.alloc (.cells #[.slice A m c,.slice Ad p.da.length cd,.int .i64 (bY p)] 90);have hB:Below w.heap.size w ((w.alloc (.cells #[.int .i64 (sn:Nat)] 3)).alloc (.cells #[.slice A m c,.slice Ad p.da.length cd,.int .i64 (bY p)] 90)):=((Below.refl _ w).alloc (Nat.le_refl _) _).alloc (by simp) _;have ZW:=hfs.below hB;have hsz:((w.alloc (.cells #[.int .i64 (sn:Nat)] 3)).alloc (.cells #[.slice A m c,.slice Ad p.da.length cd,.int .i64 (bY p)] 90)).heap.size=w.heap.size+2:=by simp
 have HB:=Lib.hid hB;have HFS:=Lib.hid ZW;have HB0:=Lib.hid XA;have HB1:=Lib.hid b1;have wu:=Lib.hid hsz;have HM:=Lib.hid hm;have HZ:=Lib.hid hz;clear hB ZW XA b1 b0 hsz hm hfs hb h ho hz;go_enter Tryz.func43,Tryz.ntmps43;go_wp2_with fail;obtain ⟨w2,hw2⟩:∃w2,(w.alloc (.cells #[.int .i64 (sn:Nat)] 3)).alloc (.cells #[.slice A m c,.slice Ad p.da.length cd,.int .i64 (bY p)] 90)=w2:=⟨_,rfl⟩
 rw[hw2] at HB HFS HB0 HB1 wu ⊢;refine (LQ (w.heap.size+1) w2).mono ?_;rintro e3 w3 ⟨rfl,rfl⟩;have hgv:=aA.new w2 86 #[.pointer (some ⟨w.heap.size+1,0,none⟩)];have hb3:=HB1.out.alloc (.cells #[.pointer (some ⟨w.heap.size+1,0,none⟩)] 86);have hs3:=HB0.out.alloc (.cells #[.pointer (some ⟨w.heap.size+1,0,none⟩)] 86);have ZX:=zH w2.heap.size (w.heap.size+1) w.heap.size A m c p.fl sn (w2.alloc (.cells #[.pointer (some ⟨w.heap.size+1,0,none⟩)] 86)) (by omega) hgv (by have:=wu.out;simp;omega) (hb3.cell 0) (HFS.out.below ((Below.refl _ w2).alloc (Nat.le_refl _) _)) (hs3.cell 0) (by have:=wu.out;simp;omega);have ZY:=Lib.hid ZX;have HB3:=Lib.hid hb3;have Au:=Lib.hid hs3;have Cq:=Lib.hid (HB.out.alloc HB.out.size (.cells #[.pointer (some ⟨w.heap.size+1,0,none⟩)] 86));clear hgv hb3 hs3 ZX hw2 HB HB0 HB1 HFS;go_wp2_with fail;refine ZY.out.mono ?_;rintro e4 w4 ⟨v,rfl,hv4,hb4⟩;clear ZY;have hB4:=Cq.out.trans (hb4.mono Cq.out.size);have Wd:=HB3.out.below hb4 HB3.out.lt;have hs4:=Au.out.below hb4 Au.out.lt;have c0:=hs4.cell 0;have c1:=Wd.cell 0;have c3:=Wd.cell 2;simp at c0 c1 c3;have Wh:=aW (base':=w.heap.size) hv4 Cq.out.size;obtain ⟨Av,cv,rfl,_,_⟩:=bP.cO (l:=(dD p.fl 0 0).map (dP sn)) Wh;have ZZ:=Lib.hid Wh;have uP:=Lib.hid hB4;have HS4:=Lib.hid hs4;clear hv4 Wh hB4 hb4 Wd hs4 HB3 Au;cases hs:p.size with
 |some k=>
  have hdd:bY p=(k:Int):=by unfold bY;rw[hs]
  rw[hdd] at c3;have HE:=Lib.hid (CZ (sn:=sn) HZ.out hs);clear hdd hs;go_wp2_with fail;go_ret;rw[HE.out];refine ⟨.slice Av (dD p.fl 0 0).length cv,rfl,?_,uP.out⟩;have h9:=ZZ.out;rw[List.length_map] at h9 ⊢;exact h9
 |none=>
  have hdd:bY p= -1:=by unfold bY;rw[hs]
  rw[hdd] at c3;have HE:=Lib.hid (C4 (sn:=sn) hs);clear hdd hs;obtain ⟨L,hL⟩:∃L,(dD p.fl 0 0).map (dP sn)=L:=⟨_,rfl⟩
  rw[hL] at ZZ HE ⊢;have Xl:L.length≤100001:=by rw[←hL,List.length_map];omega
  clear hL hgl;have HV5:=Lib.hid (ZZ.out.alloc (.cells (Ih ⟨sn,true,m,32767⟩) 116));have hnk:=O4 w4 ⟨sn,true,m,32767⟩;simp only[Ih] at HV5 hnk;have HNK:=Lib.hid hnk;have Hw:=Lib.hid (uP.out.alloc uP.out.size (.cells (Ih ⟨sn,true,m,32767⟩) 116));simp only[Ih] at Hw;clear hnk;go_wp2_with (at_builtin;refine jZ _ rfl _ _ 40 rfl w.heap.size 116 i0 (.agg #[.int .i64 0,.bool false,.int .i64 0,.int .i64 0]) 32 zb hi hz0 hz1 hz2 rfl (.slice Av L.length cv) L.length (qg L) rfl HV5.out (some ⟨w4.heap.size,0,none⟩) 1 1 [⟨sn,true,m,32767⟩] rfl HNK.out ?c3 ?c4 ?c5 ?_)
  case c3=>unfold maxLen;omega
  case c4=>omega
  case c5=>have:=uP.out.size;simp;omega
  intro v' w5 hown5 bF;go_wp2_with fail;go_ret;rw[HE.out,HM.out];refine ⟨v',rfl,?_,Hw.out.grown bF Hw.out.size (fun j hj=>(HV5.out.lt j hj).1)⟩;rw[El,List.length_append];exact hown5
end
end Go.Proofs.YtiecgfahidpldaaGreat
