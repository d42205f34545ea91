/- status: size and Encode. status.Encode. Plain mathematics: decoding undoes encoding of unacknowledged mode PDUs, and encoding undoes decoding. Plain mathematics: encodings cut short. status, plain: what Decode computes; it undoes Encode. The reference's bits: FromUint, Put. The reference's bits: Valid, Pack, Bytes, Align. The reference of layer 30: Size, Valid, Framing. The reference of layer 30: Tail, Encode. law30.UmpduHolds: the walk. Lemmas for the walk of law30.UmpduCuts: the wanted chunk that the law builds. The reference's reader: Unpack, NewReader, Uint, Get, Align. The reference's reader: Get, Align. The reference's Rest: lengths. status: the parts of Decode. status.Decode: an error is raised and recovered. -/
import Derived.Test.YtbhiklnljiehiaaGreatM0aa
import Derived.Test.YtbhiklnljiehiaaGreatM0ac
import Derived.Test.YtbhiklnljiehiaaGreatM0ae
import Derived.Test.YtbhiklnljiehiaaGreatM0af
import Derived.StillTailTactics
import Derived.Deep.DeepCutAuto
import Derived.Deep.RegionLaw
namespace Go.Proofs.YtbhiklnljiehiaaGreat
section
open Go.RowKit Go.Shelf
attribute [local go_sem] Oper.semAt_some
def uI (x:Nk):Nat:=if x.part=true then 42 else 12
def oz (l:List Nk):Nat:=(l.map uI).sum
def kD (l:List Nk):Nat:=(15+oz l+7)/8
def nk0:Nk:=⟨0,false,0,0⟩
def Er (more:Bool) (x:Nk):List (Nat × Nat):=
 [(x.sn.toNat,10),(more.toNat,1),(x.part.toNat,1)]++(if x.part=true then [(x.fr.toNat,15),(x.lt.toNat,15)] else [])
def j5 (l:List Nk):Nat→List (Nat × Nat)
 |0=> []
 |k+1=>j5 l k++Er (decide (k+1<l.length)) (l[k]?.getD nk0)
def Bg (aK:Nat) (l:List Nk):List UInt8:=pack (aG ([(0,4),(aK,10),((decide (0<l.length)).toNat,1)]++j5 l l.length))
theorem iL (a b:List (Nat × Nat)):aG (a++b)=aG a++aG b:=by simp[aG]
theorem GA (l:List Nk) (k:Nat) (x:Nk) (h:l[k]? =some x):oz (l.take (k+1))=oz (l.take k)+uI x:=by
 unfold oz;rw[List.take_add_one,h];simp
theorem LW (l:List Nk):oz l≤42*l.length:=by
 induction l with
 |nil=>simp[oz]
 |cons x r ih=>
  simp only[oz,List.map_cons,List.sum_cons,List.length_cons] at ih ⊢;have:uI x≤42:=by unfold uI;split<;>omega
  omega
section
variable (w:World)
theorem uJ (b:Bool):Calls Tryz.prog 123 #[.bool b] w fun e w'=>e= .returned (.int .u64 b.toNat)∧w'=w:=by
 cases b
 ·go_enter Tryz.func123,Tryz.ntmps123;go_wp2;go_ret;exact ⟨rfl,rfl⟩
 ·go_enter Tryz.func123,Tryz.ntmps123;go_wp2;go_ret;exact ⟨rfl,rfl⟩
theorem bI.get {w:World} {A:Option Addr} {n c:Nat} {l:List Nk} (h:bI w A n c l) {k:Nat} (hk:k<n):∃ad x,A=some ad∧l[k]? =some x∧(ad.add (k*4)).block<w.heap.size∧
 w.cell? (ad.add (k*4))=some (.int .i64 x.sn)∧w.cell? ⟨(ad.add (k*4)).block,(ad.add (k*4)).off+1,none⟩=some (.bool x.part)∧w.cell? ⟨(ad.add (k*4)).block,(ad.add (k*4)).off+2,none⟩=some (.int .i64 x.fr)∧w.cell? ⟨(ad.add (k*4)).block,(ad.add (k*4)).off+3,none⟩=some (.int .i64 x.lt):=by
 have hl:=h.len;obtain ⟨x,hx⟩:∃x,l[k]? =some x:=⟨_,List.getElem?_eq_getElem (by omega)⟩
 obtain ⟨ad,e,hb,hc⟩:=h.at_ (by omega);obtain ⟨k0,k1,k2,k3⟩:=hc k x hx;exact ⟨ad,x,e,hx,by rw[block_add];exact hb,k0,k1,k2,k3⟩
theorem bI.take {w:World} {A:Option Addr} {n c:Nat} {l:List Nk} (h:bI w A n c l) {k:Nat} (hk:k≤n):bI w A k k (l.take k):=by
 have hl:=h.len;have hc:=h.cap;have hm:=h.mx;refine ⟨by rw[List.length_take];omega,Nat.le_refl _,by omega,fun h0=> ?_⟩;obtain ⟨ad,e,hb,hcl⟩:=h.at_ (by omega);refine ⟨ad,e,hb,fun j r hr=>hcl j r ?_⟩;rw[List.getElem?_take] at hr;split at hr
 ·exact hr
 ·cases hr
theorem bI.takeC {w:World} {A:Option Addr} {n c c':Nat} {l:List Nk} (h:bI w A n c l) {k:Nat} (hk:k≤n) (h1:k≤c') (h2:c'≤9223372036854775807):bI w A k c' (l.take k):=
 let h3:=h.take hk
 ⟨h3.len,h1,h2,h3.at_⟩
theorem bI.oM {w:World} {A:Option Addr} {n c b o:Nat} {l:List Nk} (h:bI w A n c l) (hlt:∀ad,A=some ad→ad.block≠b) (u:Value):bI (w.setCell ⟨b,o,none⟩ u) A n c l:=
 ⟨h.len,h.cap,h.mx,fun hn=>by
  obtain ⟨ad,e,hl,hc⟩:=h.at_ hn;have hB:=hlt ad e;refine ⟨ad,e,by simpa[World.setCell] using hl,fun j r hr=> ?_⟩;obtain ⟨k0,k1,k2,k3⟩:=hc j r hr;have hbk:(w.setCell ⟨b,o,none⟩ u).heap[(ad.add (j*4)).block]? =w.heap[(ad.add (j*4)).block]? :=by rw[block_add];exact Below.heap_setCell w ⟨b,o,none⟩ u _ hB
  exact ⟨(World.cell?_of_block (a:=ad.add (j*4)) hbk).trans k0,(World.cell?_of_block (a:=⟨(ad.add (j*4)).block,_,none⟩) hbk).trans k1,(World.cell?_of_block (a:=⟨(ad.add (j*4)).block,_,none⟩) hbk).trans k2,(World.cell?_of_block (a:=⟨(ad.add (j*4)).block,_,none⟩) hbk).trans k3⟩⟩
theorem bI.LX {w w':World} {A:Option Addr} {n c B:Nat} {l:List Nk} (h:bI w A n c l) (hb:Below B w w') (hlt:∀ad,A=some ad→0<n→ad.block<B):bI w' A n c l:=
 ⟨h.len,h.cap,h.mx,fun hn=>by
  obtain ⟨ad,e,hl,hc⟩:=h.at_ hn;have hB:=hlt ad e hn;have hbk:(ad.add (0*4)).block=ad.block:=block_add _ _;refine ⟨ad,e,Nat.lt_of_lt_of_le hl hb.size,fun j r hr=> ?_⟩;obtain ⟨k0,k1,k2,k3⟩:=hc j r hr;have hbk:(ad.add (j*4)).block<B:=by rw[block_add];exact hB
  exact ⟨(hb.cell hbk).trans k0,(hb.cell (p:=⟨(ad.add (j*4)).block,_,none⟩) hbk).trans k1,(hb.cell (p:=⟨(ad.add (j*4)).block,_,none⟩) hbk).trans k2,(hb.cell (p:=⟨(ad.add (j*4)).block,_,none⟩) hbk).trans k3⟩⟩
set_option maxRecDepth 10000 in
set_option maxHeartbeats 2000000 in
theorem JO (A:Option Addr) (n c:Nat) (l:List Nk) (h:bI w A n c l) (hn:n≤1000000):
 Calls Tryz.prog 121 #[.slice A n c] w fun e w'=>e= .returned (.int .i64 (kD l:Nat))∧Below w.heap.size w w':=by
 have hlen:=h.len;have hcap:=h.cap;have hmx:=h.mx;have HL:=Lib.hid hlen;have HH:=Lib.hid h;clear hlen h;go_enter Tryz.func121,Tryz.ntmps121;go_wp2
 go_loopw [3,8] (fun t i wr=>∃k S:Nat,k≤n∧S=oz (l.take k)∧i= .int .i64 k∧t= .int .i64 ((15+S:Nat):Int)∧Below w.heap.size w wr) (fun _ i _=>n-(intOf i).toNat)
 case atStart=>exact ⟨0,0,Nat.zero_le _,by simp[oz],rfl,rfl,Below.refl _ _⟩
 case round=>
  obtain ⟨k,S,hk,hS,rfl,rfl,hb⟩:=hrel;have hSb:S≤42*k:=by rw[hS];have:=LW (l.take k);have h2:(l.take k).length≤k:=List.length_take_le _ _;omega
  have hws:=hb.size;by_cases hlt:k<n
  ·obtain ⟨ad,x,rfl,hx,hbk,k0,k1,k2,k3⟩:=(HH.out.below hb).get hlt;have hsu:=GA l k x hx;have HZ:=Lib.hid (au.new wr 197 #[.int .i64 x.sn,.bool x.part,.int .i64 x.fr,.int .i64 x.lt]);have HX:=Lib.hid hx;have c1:=HZ.out.cell 1;simp at c1;rw[←hS] at hsu;cases hp:x.part with
   |false=>
    rw[hp] at k1;have Cz:oz (l.take (k+1))=S+12:=by rw[hsu];unfold uI;rw[hp];rfl
    have I5:=Lib.hid Cz;have HS:=Lib.hid hS;have HP:=Lib.hid hp;clear hsu Cz hS hx hp;go_wp2
    go_roundw
    case rel=>exact ⟨k+1,S+12,by omega,I5.out.symm,by go_num,by go_num,hb.alloc (by omega) _⟩
    case measure=>simp[intOf];omega
   |true=>
    rw[hp] at k1;have Cz:oz (l.take (k+1))=S+42:=by rw[hsu];unfold uI;rw[hp];rfl
    have I5:=Lib.hid Cz;have HS:=Lib.hid hS;have HP:=Lib.hid hp;clear hsu Cz hS hx hp;go_wp2
    go_roundw
    case rel=>exact ⟨k+1,S+42,by omega,I5.out.symm,by go_num,by go_num,hb.alloc (by omega) _⟩
    case measure=>simp[intOf];omega
  ·obtain rfl:k=n:=by omega
   have e:kD l=(15+S+7)/8:=by
    unfold kD;rw[hS,List.take_of_length_le (by have:=HL.out;omega)]
   have HE:=Lib.hid e;have HS:=Lib.hid hS;clear e hS;go_wp2;go_ret;refine ⟨?_,hb⟩;rw[HE.out];have:((15+S:Nat):Int)+7=((15+S+7:Nat):Int):=by omega
   first
   |rfl
   |(congr 2;omega)
end
end
section
open Go.RowKit Go.Shelf
attribute [local go_sem] Oper.semAt_some
theorem zV {aK:Int} {x:Nk} (h:gY aK x=true):(0≤x.sn∧x.sn<1024)∧(0≤x.fr∧x.fr≤32767∧0≤x.lt∧x.lt≤32767):=by
 unfold gY at h;simp only[Bool.and_eq_true,decide_eq_true_eq] at h;obtain ⟨h1,_,h2⟩:=h;refine ⟨h1,?_⟩;split at h2
 ·simp only[Bool.and_eq_true,decide_eq_true_eq] at h2;omega
 ·simp only[Bool.and_eq_true,decide_eq_true_eq] at h2;omega
theorem Es {aK:Int} {l:List Nk} (h:cu aK l=true) {k:Nat} {x:Nk} (hx:l[k]? =some x):gY aK x=true:=by
 unfold cu at h;simp only[Bool.and_eq_true] at h;exact ((jK aK l).1 h.2.2 k x hx).1
theorem uK (l:List Nk):∀k,(aG (j5 l k)).length≤42*k
 |0=>by simp[j5,aG]
 |k+1=>by
  have ih:=uK l k;rw[j5,iL,List.length_append];have:(aG (Er (decide (k+1<l.length)) (l[k]?.getD nk0))).length≤42:=by
   unfold Er;rw[iL,List.length_append];split<;>simp[aG]
  omega
section
variable (w:World)
set_option maxRecDepth 10000 in
set_option maxHeartbeats 2000000 in
theorem Et (aK:Int) (A:Option Addr) (n c:Nat) (l:List Nk) (h:bI w A n c l) (hv:cu aK l=false):
 Calls Tryz.prog 83 #[.agg #[.int .i64 aK,.slice A n c]] w fun e w'=>e= .returned (.tuple #[.slice none 0 0,.int .i64 2])∧Below w.heap.size w w':=by
 have hB:Below w.heap.size w (w.alloc (.cells #[.int .i64 aK,.slice A n c] 133)):=(Below.refl _ w).alloc (Nat.le_refl _) _;have hva:=jL _ aK A n c l (h.alloc (.cells #[.int .i64 aK,.slice A n c] 133));rw[hv] at hva;have HB:=Lib.hid hB;have HV:=Lib.hid hva;clear hB hva hv h;go_enter Tryz.func83,Tryz.ntmps83;go_wp2_with (go_at_call 119;refine HV.out.mono ?_;rintro e1 w1 ⟨rfl,hb1⟩)
 go_ret2
 exact ⟨rfl,HB.out.trans (hb1.mono HB.out.size)⟩
set_option maxRecDepth 100000 in
set_option maxHeartbeats 4000000 in
theorem GB (aK:Nat) (A:Option Addr) (n c:Nat) (l:List Nk) (h:bI w A n c l) (hv:cu (aK:Int) l=true):
 Calls Tryz.prog 83 #[.agg #[.int .i64 (aK:Int),.slice A n c]] w (pF w.heap.size 5 w (Bg aK l).length (bV (Bg aK l)) 0):=by
 have hlen:=h.len;have hcap:=h.cap;have hmx:=h.mx;have hva:=jL _ (aK:Int) A n c l (h.alloc (.cells #[.int .i64 (aK:Int),.slice A n c] 133));rw[hv] at hva;have hv2:=hv;unfold cu at hv2;simp only[Bool.and_eq_true,decide_eq_true_eq] at hv2;have ahX:aK≤1023:=by have:=hv2.1.2;omega
 have WY:n≤512:=by have:=hv2.2.1;omega
 have hB:Below w.heap.size w (w.alloc (.cells #[.int .i64 (aK:Int),.slice A n c] 133)):=(Below.refl _ w).alloc (Nat.le_refl _) _;have b0:=au.new w 133 #[.int .i64 (aK:Int),.slice A n c];have hN0:=h.alloc (.cells #[.int .i64 (aK:Int),.slice A n c] 133);have HB:=Lib.hid hB;have HV:=Lib.hid hva;have HL:=Lib.hid hlen;have I6:=Lib.hid hv;clear hB hva hv hv2 hlen h;go_enter Tryz.func83,Tryz.ntmps83;go_wp2_with fail;refine HV.out.mono ?_;rintro e1 w1 ⟨rfl,hb1⟩;have hbw:Below w.heap.size w w1:=HB.out.trans (hb1.mono HB.out.size)
 replace b0:=b0.below hb1 b0.lt
 have hN1:=hN0.below hb1;have hlt1:=b0.lt;clear HV hb1 HB hN0;go_wp2_with fail;have hW2:nJ (w1.alloc (.cells #[.slice none 0 0,.int .i64 0] 202)) w1.heap.size w1.heap.size []:=⟨Nat.le_refl _,_,au.new w1 _ _,World.ownsRow_nil _ _ _ _⟩;have hbw2:=hbw.alloc hbw.size (.cells #[.slice none 0 0,.int .i64 0] 202)
 replace b0:=b0.alloc (.cells #[.slice none 0 0,.int .i64 0] 202)
 have Ti:=hN1.alloc (.cells #[.slice none 0 0,.int .i64 0] 202);obtain ⟨g,hg⟩:∃g,g=w1.heap.size:=⟨_,rfl⟩
 have hgl:w.heap.size<g:=by omega
 have hNb:∀ad,A=some ad→0<n→ad.block<g:=fun ad e h0=>by
  obtain ⟨zC,e',hb',_⟩:=hN1.at_ h0;rw[e] at e';cases e';omega
 rw[←hg] at hW2 ⊢;generalize w1.alloc (.cells #[.slice none 0 0,.int .i64 0] 202)=w2 at*;clear hbw hlt1 hg hN1;have c00:=b0.cell 0;have WZ:=b0.cell 1;simp at c00 WZ;have hwr:IntKind.u64.wrap (aK:Int)=aK:=by rw[IntKind.wrap_u64];omega
 have hdn:decide ((0:Int)<n)=decide (0<n):=by rw[Bool.eq_iff_iff];simp
 refine wp_region_still_tail 11 (by kernel_rfl) (by kernel_rfl) ?_;simp only[List.take_succ_cons,List.take_zero,List.drop_succ_cons,List.drop_zero]
 still_step
 still_step
 still_step
 still_step
 still_step
 still_step
 still_step
 still_step
 still_step
 still_call (uJ _ _)
 still_step
 refine wpStill_nil ?_;change wpList _ _ _ _ _ w2.drew
 replace hW2:nJ w2.drew g g []:=hW2
 replace hbw2:=hbw2.drew
 replace b0:=b0.drew
 have Rv:=Ti.below ((Below.refl _ w2).drew);generalize w2.drew=w3 at*;clear c00 WZ hwr hdn Ti;have hput:=iT g g w3.heap.size [] [(0,4),(aK,10),((decide (0<n)).toNat,1)] (w3.alloc (.cells (bF [(0,4),(aK,10),((decide (0<n)).toNat,1)]).toArray 206)) (hW2.alloc _) (by simp) (by simp) (au.new _ _ _) (by
  intro x hx;simp only[List.mem_cons,List.not_mem_nil,or_false] at hx;have hb:∀b:Bool,b.toNat≤1:=fun b=>by cases b<;>simp
  rcases hx with rfl|rfl|rfl
  ·exact ⟨by omega,by decide,by omega⟩
  ·exact ⟨by omega,by simp;omega,by omega⟩
  ·exact ⟨by omega,by have:=hb (decide (0<n));simp;omega,by have:=hb (decide (0<n));omega⟩)
 simp only[bF,List.length_cons,List.length_nil,Nat.zero_add,Nat.reduceAdd,List.nil_append] at hput;have lD:=Lib.hid hput;clear hput;go_wp2_with fail;refine lD.out.mono ?_;rintro e4 w4 ⟨rfl,Tj,hk4⟩;have hg3:g<w3.heap.size:=by obtain ⟨_,v,hb,_⟩:=hW2;exact hb.lt
 clear lD hW2;have hB4:=hk4.below (B:=g) (fun _ _ h=>h.1) (by simp;omega);have Pg:=(hbw2.alloc hbw2.size _).trans (hB4.mono (by omega));have b04:=(b0.alloc (.cells #[.int .u64 0,.int .i64 4,.int .u64 aK,.int .i64 10,.int .u64 (decide (0<n)).toNat,.int .i64 1] 206)).below hB4 (by omega);have hN4:bI w4 A n c l:=by
  have h1:=Rv.alloc (.cells #[.int .u64 0,.int .i64 4,.int .u64 aK,.int .i64 10,.int .u64 (decide (0<n)).toNat,.int .i64 1] 206);exact h1.LX hB4 hNb
 clear hB4 hbw2 hk4 b0 Rv;have WZ:=b04.cell 1;simp at WZ;obtain ⟨hd,hhd⟩:∃hd:List (Nat × Nat),hd= [(0,4),(aK,10),((decide (0<n)).toNat,1)]:=⟨_,rfl⟩
 rw[←hhd] at Tj;have W9:(aG hd).length=15:=by rw[hhd];simp[aG]
 have henc:Bg aK l=pack (aG hd++aG (j5 l n)):=by unfold Bg;rw[HL.out,hhd,iL]
 have Xa:=Lib.hid W9;have HE:=Lib.hid henc;have B04:=Lib.hid b04;have HN4:=Lib.hid hN4;generalize hEE:Bg aK l=EE at*;clear W9 henc hhd hEE b04 hN4;go_wp2
 go_loopw [26] (fun i wr=>∃k:Nat,k≤n∧i= .int .i64 k∧nJ wr g g (aG hd++aG (j5 l k))∧Kept (Mw g g) w4 wr) (fun i _=>n-(intOf i).toNat)
 case atStart=>exact ⟨0,Nat.zero_le _,rfl,by simpa[j5,aG] using Tj,Kept.refl _ _⟩
 case round=>
  obtain ⟨k,hk,rfl,LY,Rw⟩:=hrel;have hgr:g<wr.heap.size:=by obtain ⟨_,v,hb,_⟩:=LY;exact hb.lt
  have hg4:g<w4.heap.size:=by obtain ⟨_,v,hb,_⟩:=Tj;exact hb.lt
  have GD:=Rw.below (B:=g) (fun _ _ h=>h.1) (by omega);have GG:=Pg.trans (GD.mono (by omega));by_cases hlt:k<n
  ·obtain ⟨ad,x,rfl,hx,hbk,k0,k1,k2,k3⟩:=(HN4.out.LX GD hNb).get hlt;obtain ⟨⟨hs0,hs1⟩,hx2,hx3,hx4,hx5⟩:=zV (Es I6.out hx);have hsu:j5 l (k+1)=j5 l k++Er (decide (k+1<n)) x:=by rw[j5,hx,HL.out];rfl
   obtain ⟨xs,xp,xf,xl⟩:=x;dsimp only at k0 k1 k2 k3 hs0 hs1 hx2 hx3 hx4 hx5;obtain ⟨xs,rfl⟩:=Int.eq_ofNat_of_zero_le hs0;obtain ⟨xf,rfl⟩:=Int.eq_ofNat_of_zero_le hx2;obtain ⟨xl,rfl⟩:=Int.eq_ofNat_of_zero_le hx4;have hlk:(aG hd++aG (j5 l k)).length≤50000:=by
    rw[List.length_append,Xa.out];have:=uK l k;omega
   have Cz:aG hd++aG (j5 l (k+1))=(aG hd++aG (j5 l k))++aG ([(xs,10),((decide (k+1<n)).toNat,1),(xp.toNat,1)]++(if xp=true then [(xf,15),(xl,15)] else [])):=by
    rw[hsu,iL];simp[Er]
   obtain ⟨FN,Tk⟩:∃FN,aG hd++aG (j5 l (k+1))=FN:=⟨_,rfl⟩
   rw[Tk] at Cz;have Xb:=Lib.hid Tk;clear Tk;generalize aG hd++aG (j5 l k)=FK at*;have hz0:au (wr.alloc (.cells #[.int .i64 (xs:Int),.bool xp,.int .i64 (xf:Int),.int .i64 (xl:Int)] 197)) wr.heap.size 197 #[.int .i64 (xs:Int),.bool xp,.int .i64 (xf:Int),.int .i64 (xl:Int)]:=au.new wr _ _;have Ry:=LY.alloc (.cells #[.int .i64 (xs:Int),.bool xp,.int .i64 (xf:Int),.int .i64 (xl:Int)] 197);have K6:=Rw.alloc (.cells #[.int .i64 (xs:Int),.bool xp,.int .i64 (xf:Int),.int .i64 (xl:Int)] 197);have hb5:=(B04.out.below GD (by omega)).alloc (.cells #[.int .i64 (xs:Int),.bool xp,.int .i64 (xf:Int),.int .i64 (xl:Int)] 197);have I5:=Lib.hid Cz;have HX:=Lib.hid hx;have HW5:=Lib.hid Ry;have rW:=Lib.hid K6;have Gf:=Lib.hid hb5;have HZ0:=Lib.hid hz0;have VH:=Lib.hid (hz0.lt);clear hsu Cz hx LY Rw Ry K6 hz0 hb5 GD;go_wp2_with fail;obtain ⟨bx,hbx⟩:∃b,b=wr.heap.size:=⟨_,rfl⟩
   have HZB:=Lib.hid (show wr.heap.size≤bx by omega);rw[←hbx] at HZ0 VH ⊢;generalize wr.alloc (.cells #[.int .i64 (xs:Int),.bool xp,.int .i64 (xf:Int),.int .i64 (xl:Int)] 197)=w5 at*;have z0:=HZ0.out.cell 0;have z1:=HZ0.out.cell 1;have z2:=HZ0.out.cell 2;have z3:=HZ0.out.cell 3;have z4:=Gf.out.cell 1;simp at z0 z1 z2 z3 z4;clear k0 k1 k2 k3 WZ hbx;have hwr:IntKind.u64.wrap (xs:Int)=xs:=by rw[IntKind.wrap_u64];omega
   have hw1:IntKind.i64.wrap ((k:Int)+1)=(k:Int)+1:=IntWalk.i64_in _ (by omega);have hdn:decide ((k:Int)+1<(n:Int))=decide (k+1<n):=by rw[Bool.eq_iff_iff];simp;omega
   refine wp_region_still_tail 16 (by kernel_rfl) (by kernel_rfl) ?_;simp only[List.take_succ_cons,List.take_zero,List.drop_succ_cons,List.drop_zero]
   still_step
   still_step
   still_step
   still_step
   still_step
   still_step
   still_step
   still_step
   still_step
   still_step
   still_call (uJ _ _)
   still_step
   still_step
   still_step
   still_call (uJ _ _)
   still_step
   refine wpStill_nil ?_;change wpList _ _ _ _ _ w5.drew;clear z0 z1 z2 z3 z4 hwr;have I7:=HZ0.out.drew;have hW6:nJ w5.drew g g FK:=HW5.out;have Rz:=rW.out.drew;have JP:=Lib.hid I7;have rX:=Lib.hid Rz;have HW6:=Lib.hid hW6;have Xc:=Lib.hid (show bx<w5.drew.heap.size from VH.out);clear HZ0 HW5 rW Gf VH I7 hW6 Rz;generalize w5.drew=w6 at*
   try simp only[hw1,hdn]
   obtain ⟨d,hd0⟩:∃d,d=decide (k+1<n):=⟨_,rfl⟩
   have Ph:=Lib.hid (show FN=FK++aG ([(xs,10),(d.toNat,1),(xp.toNat,1)]++(if xp=true then [(xf,15),(xl,15)] else [])) by rw[hd0];exact I5.out);rw[←hd0];clear hw1 hdn hd0 I5;have hbt:∀b:Bool,b.toNat≤1:=fun b=>by cases b<;>simp
   have hput:=iT g g w6.heap.size FK [(xs,10),(d.toNat,1),(xp.toNat,1)] (w6.alloc (.cells (bF [(xs,10),(d.toNat,1),(xp.toNat,1)]).toArray 206)) (HW6.out.alloc _) (by omega) (by simp) (au.new _ _ _) (by
    intro x hx;simp only[List.mem_cons,List.not_mem_nil,or_false] at hx;rcases hx with rfl|rfl|rfl
    ·exact ⟨by omega,by simp;omega,by omega⟩
    ·exact ⟨by omega,by have:=hbt d;simp;omega,by have:=hbt d;omega⟩
    ·exact ⟨by omega,by have:=hbt xp;simp;omega,by have:=hbt xp;omega⟩)
   simp only[bF,List.length_cons,List.length_nil,Nat.zero_add,Nat.reduceAdd] at hput;have lD:=Lib.hid hput;clear hput;go_wp2_with fail;refine lD.out.mono ?_;rintro e7 w7 ⟨rfl,LZ,wO⟩;have Pj:=wO.below (B:=g) (fun _ _ h=>h.1) (by have:=Xc.out;have:=HZB.out;simp;omega);have L5:=(rX.out.alloc (.cells #[.int .u64 xs,.int .i64 10,.int .u64 d.toNat,.int .i64 1,.int .u64 xp.toNat,.int .i64 1] 206)).trans wO;have hz7:au w7 bx 197 #[.int .i64 (xs:Int),.bool xp,.int .i64 (xf:Int),.int .i64 (xl:Int)]:=by
    refine (JP.out.alloc (.cells #[.int .u64 xs,.int .i64 10,.int .u64 d.toNat,.int .i64 1,.int .u64 xp.toNat,.int .i64 1] 206)).kept wO ?_;rintro ⟨_,e|⟨cs,fr,e⟩⟩
    ·have:=HZB.out;omega
    ·cases e
   have hl7:(FK++aG [(xs,10),(d.toNat,1),(xp.toNat,1)]).length≤60000:=by simp[aG];omega
   have HW7:=Lib.hid LZ;have K8:=Lib.hid L5;have Tm:=Lib.hid hz7;clear lD Pj LZ L5 wO hz7 HW6 rX JP Xc;have z1:=Tm.out.cell 1;have z2:=Tm.out.cell 2;have z3:=Tm.out.cell 3;simp at z1 z2 z3;cases xp with
   |false=>
    have hfn:FN=FK++aG [(xs,10),(d.toNat,1),((false).toNat,1)]:=by rw[Ph.out];rfl
    have L6:=Lib.hid hfn;clear hfn Ph hbt;go_wp2_with fail
    go_roundw
    case rel=>exact ⟨k+1,by omega,by go_num,by rw[Xb.out,L6.out];exact HW7.out,K8.out⟩
    case measure=>simp[intOf];omega
   |true=>
    have hfn:FN=(FK++aG [(xs,10),(d.toNat,1),((true).toNat,1)])++aG [(xf,15),(xl,15)]:=by rw[Ph.out,List.append_assoc,←iL];rfl
    have L6:=Lib.hid hfn;have hput:=iT g g w7.heap.size _ [(xf,15),(xl,15)] (w7.alloc (.cells (bF [(xf,15),(xl,15)]).toArray 206)) (HW7.out.alloc _) (by omega) (by simp) (au.new _ _ _) (by
     intro x hx;simp only[List.mem_cons,List.not_mem_nil,or_false] at hx;rcases hx with rfl|rfl
     ·exact ⟨by omega,by simp;omega,by omega⟩
     ·exact ⟨by omega,by simp;omega,by omega⟩)
    simp only[bF,List.length_cons,List.length_nil,Nat.zero_add,Nat.reduceAdd] at hput;have lD:=Lib.hid hput;have hwf:IntKind.u64.wrap (xf:Int)=xf:=by rw[IntKind.wrap_u64];omega
    have hwl:IntKind.u64.wrap (xl:Int)=xl:=by rw[IntKind.wrap_u64];omega
    clear hput hfn Ph hbt;go_wp2_with fail;refine lD.out.mono ?_;rintro e8 w8 ⟨rfl,hW8,L8⟩;have HW8:=Lib.hid hW8;have Ol:=Lib.hid ((K8.out.alloc (.cells #[.int .u64 xf,.int .i64 15,.int .u64 xl,.int .i64 15] 206)).trans L8);clear hW8 L8 lD;go_wp2_with fail
    go_roundw
    case rel=>exact ⟨k+1,by omega,by go_num,by rw[Xb.out,L6.out];exact HW8.out,Ol.out⟩
    case measure=>simp[intOf];omega
  ·obtain rfl:k=n:=by omega
   have hlk:(aG hd++aG (j5 l k)).length≤50000:=by
    rw[List.length_append,Xa.out];have:=uK l k;omega
   have hby:=AQ g g _ wr LY (by omega);have HBY:=Lib.hid hby;clear hby LY hlk;go_wp2_with fail;refine HBY.out.mono ?_;rintro e7 w7 ⟨v7,rfl,hv7,oN⟩;have Pj:=GG.trans (oN.mono (by have:=GG.size;omega));rw[←HE.out] at hv7;have HV7:=Lib.hid (aR (base':=w.heap.size) hv7 GG.size);have HB7:=Lib.hid Pj;clear Pj hv7 oN;go_wp2_with fail
   go_ret2
   exact ⟨v7,rfl,HV7.out,HB7.out⟩
end
end
end Go.Proofs.YtbhiklnljiehiaaGreat
namespace Go.Proofs.YtbhiklnljiehiaaGreat
def lb:List Nat→List Bool
 | []=> []
 |n::l=>(bitsOf (decide (0<l.length)).toNat 1++bitsOf n 11)++lb l
end Go.Proofs.YtbhiklnljiehiaaGreat
namespace Go.Proofs.YtbhiklnljiehiaaGreat
theorem sI (bs:List UInt8):∀(f:Nat) (more:Bool) (pos:Nat) (acc:List Nat) (er:Nat),fM bs f more pos acc= .inl er→er≠0
 |_,false,pos,acc,er,h=>by simp[fM] at h
 |0,true,_,_,er,h=>by simp[fM] at h;omega
 |f+1,true,pos,acc,er,h=>by
  simp only[fM] at h;split at h
  ·cases h;omega
  ·split at h
   ·cases h;omega
   ·exact sI bs f _ _ _ er h
end Go.Proofs.YtbhiklnljiehiaaGreat
namespace Go.Proofs.YtbhiklnljiehiaaGreat
section
open Go.RowKit
def uL (aK:Int) (acc:List Nk) (n:Nk):Bool:=decide (acc.length<512)&&(gY aK n&&(match acc.getLast? with|none=>true|some m=>kW aK m n))
def GH (bs:List UInt8) (pos:Nat):Option (Nk × Bool × Nat):=
 if 8*bs.length<pos+12 then none
 else if val (aH bs (pos+11) 1)=1 then
  if 8*bs.length<pos+42 then none
  else some (⟨(val (aH bs pos 10):Nat),true,(val (aH bs (pos+12) 15):Nat),(val (aH bs (pos+27) 15):Nat)⟩,decide (val (aH bs (pos+10) 1)=1),pos+42)
 else some (⟨(val (aH bs pos 10):Nat),false,0,0⟩,decide (val (aH bs (pos+10) 1)=1),pos+12)
def oC (bs:List UInt8) (aK:Nat):Nat→Bool→Nat→List Nk→Sum Nat (List Nk × Nat)
 |_,false,pos,acc=> .inr (acc,pos)
 |0,true,_,_=> .inl 9
 |f+1,true,pos,acc=>match GH bs pos with
  |none=> .inl 5
  |some (n,more,p)=>if uL aK acc n=true then oC bs aK f more p (acc++ [n]) else .inl 9
def CB (bs:List UInt8) (pos:Nat):Bool:=decide (8*bs.length-pos<8)&&decide (val (aH bs pos (mK pos))=0)
def oD (bs:List UInt8):Sum Nat (Nat × List Nk):=
 if 8*bs.length<15 then .inl 5
 else if val (aH bs 0 4)≠0 then .inl 9
 else match oC bs (val (aH bs 4 10)) 513 (decide (val (aH bs 14 1)=1)) 15 [] with
  | .inl e=> .inl e
  | .inr (l,pos)=>if CB bs pos=true then .inr (val (aH bs 4 10),l) else .inl 9
end
end Go.Proofs.YtbhiklnljiehiaaGreat
namespace Go.Proofs.YtbhiklnljiehiaaGreat
open Go.RowKit
end Go.Proofs.YtbhiklnljiehiaaGreat
namespace Go.Proofs.YtbhiklnljiehiaaGreat
open Go.RowKit
end Go.Proofs.YtbhiklnljiehiaaGreat
namespace Go.Proofs.YtbhiklnljiehiaaGreat
open Go.RowKit
theorem CF (ps:List (List UInt8)) (M:Nat) (h:∀p∈ps,p.length≤M):ah ps≤M*ps.length:=by
 induction ps with
 |nil=>simp[ah]
 |cons p ps ih=>
  have h1:=h p (by simp);have h2:=ih (fun q hq=>h q (by simp[hq]));unfold ah at h2 ⊢;rw[List.map_cons,List.sum_cons,List.length_cons,Nat.mul_succ];omega
def Tn (b:Bool) (w:World) (e:Ending) (w':World):Prop:=e= .returned (.bool b)∧Below w.heap.size w w'
end Go.Proofs.YtbhiklnljiehiaaGreat
namespace Go.Proofs.YtbhiklnljiehiaaGreat
open Go.RowKit
end Go.Proofs.YtbhiklnljiehiaaGreat
namespace Go.Proofs.YtbhiklnljiehiaaGreat
open Go.RowKit
theorem Below.drew' {w w':World} (h:Below w.drew.heap.size w.drew w'):Below w.heap.size w w':=((Below.refl w.heap.size w).drew).trans h
end Go.Proofs.YtbhiklnljiehiaaGreat
namespace Go.Proofs.YtbhiklnljiehiaaGreat
open Go.RowKit
theorem Sl.Xd {w:World} {B:Nat} {A:Option Addr} {n c k:Nat} {xs:List Value} (h:Sl w B A n c xs) (hk:k≤n):Sl w B A k c (xs.take k):=by
 have hl:=h.len;refine ⟨by simp;omega,by have:=h.cap;omega,h.mx,fun hp=> ?_⟩;obtain ⟨ad,e,hb,hc⟩:=h.at_ (by omega);refine ⟨ad,e,hb,fun j u hu=>hc j u ?_⟩;rw[List.getElem?_take] at hu;split at hu
 ·exact hu
 ·cases hu
end Go.Proofs.YtbhiklnljiehiaaGreat
namespace Go.Proofs.YtbhiklnljiehiaaGreat
open Go.RowKit
theorem ed {w:World} {base:Nat} {e:TypeId} {A:Option Addr} {c n:Nat} {xs:List Value} (h:w.ownsRow base e 1 (.slice A n c) n xs):Sl w w.heap.size A n c xs:=by
 obtain ⟨A',c',he,hs,_⟩:=aZ h;cases he;exact hs
theorem aJ {w:World} {base:Nat} {e t:TypeId} {v:Value} {n g i:Nat} {xs:List Value} {cs:Array Value} (h:w.ownsRow base e 1 v n xs) (hg:au w g t cs) (hne:e≠t) (u:Value):(w.setCell ⟨g,i,none⟩ u).ownsRow base e 1 v n xs:=
 h.kept (aM w g i u) (.inr (aI h hg hne))
end Go.Proofs.YtbhiklnljiehiaaGreat
namespace Go.Proofs.YtbhiklnljiehiaaGreat
open Go.RowKit
theorem Sl.mid {w:World} {B n c a m:Nat} {A:Option Addr} {xs:List Value} (h:Sl w B A n c xs) (hm:a+m≤n):Sl w B (if c=a then A else A.map (·.add a)) m (c-a) ((xs.drop a).take m):=by
 have h1:=h.cut (k:=a) (by omega);exact h1.Xd (k:=m) (by omega)
end Go.Proofs.YtbhiklnljiehiaaGreat
namespace Go.Proofs.YtbhiklnljiehiaaGreat
open Go.RowKit
theorem qj (W:World) (x:Value) (t:TypeId):Sl (W.alloc (.cells #[x] t)).drew (W.alloc (.cells #[x] t)).heap.size (some ⟨W.heap.size,0,none⟩) 1 1 [x]:=
 (uF (xs:= [x]) (mR W (.cells #[x] t)) rfl (by simp)).drew
end Go.Proofs.YtbhiklnljiehiaaGreat
namespace Go.Proofs.YtbhiklnljiehiaaGreat
section
open Go.RowKit Go.Shelf
attribute [local go_sem] Oper.semAt_some
theorem kY (er:Int) (w:World):Calls Tryz.prog 137 #[.bool true,.int .i64 er] w fun e w'=>e= .returned (.tuple #[])∧w=w':=by
 go_enter Tryz.func137,Tryz.ntmps137;go_wp2
 go_end0
 exact ⟨rfl,rfl⟩
theorem jd (er:Int) (w:World):Calls Tryz.prog 137 #[.bool false,.int .i64 er] w fun e w'=>e=raise er∧w=w':=by
 unfold raise;go_enter Tryz.func137,Tryz.ntmps137;go_wp2;exact ⟨rfl,rfl,rfl⟩
theorem sJ (A:Option Addr) (n c:Nat) (w:World):Calls Tryz.prog 135 #[.slice A n c,.int .i64 0] w fun e w'=>e= .returned (.slice A n c)∧w=w':=by
 go_enter Tryz.func135,Tryz.ntmps135;go_wp2_with (go_at_call 137;refine (kY _ _).mono ?_;rintro e w' ⟨rfl,rfl⟩);go_ret;exact ⟨rfl,rfl⟩
theorem uM (A:Option Addr) (n c:Nat) (er:Int) (KZ:(er==0)=false) (w:World):Calls Tryz.prog 135 #[.slice A n c,.int .i64 er] w fun e w'=>e=raise er∧w=w':=by
 go_enter Tryz.func135,Tryz.ntmps135;go_wp2_with (go_at_call 137;refine (jd _ _).mono ?_;rintro e w' ⟨rfl,rfl⟩);exact ⟨rfl,rfl,rfl⟩
set_option maxHeartbeats 1000000 in
theorem L9 (r:Nat) (v:Value) (bs:List UInt8) (pos:Nat) (w:World) (h:jF w r v bs pos) (hp:pos≤8*bs.length) (hsm:bs.length≤1000000000):
 Calls Tryz.prog 141 #[.pointer (some ⟨r,0,none⟩)] w fun e w'=>e= .returned (.int .i64 (if CB bs pos=true then 0 else 9))∧Below w.heap.size w w':=by
 obtain ⟨A,cc,rfl,_⟩:=aZ h.2;have c0:=h.1.cell 0;have c1:=h.1.cell 1;simp at c0 c1;have hr1:jF (w.alloc (.cells #[.slice A bs.length cc,.int .i64 (pos:Nat)] 262)) w.heap.size (.slice A bs.length cc) bs pos:=⟨au.new w _ _,h.2.alloc _⟩;have HL:=Lib.hid (xO w.heap.size _ bs pos _ hr1 hp hsm);have HA:=Lib.hid (fun q=>xQ w.heap.size _ bs pos ((w.alloc (.cells #[.slice A bs.length cc,.int .i64 (pos:Nat)] 262)).drewN q) (hr1.drewN q) hsm hp);have HB:=Lib.hid (show Below w.heap.size w (w.alloc (.cells #[.slice A bs.length cc,.int .i64 (pos:Nat)] 262)) from (Below.refl _ w).alloc (Nat.le_refl _) _);clear h hr1 hp;by_cases h8:8*bs.length-pos<8
 ·have d8:decide ((8:Int)≤((8*bs.length-pos:Nat):Int))=false:=decide_eq_false (by omega);by_cases hv:val (aH bs pos (mK pos))=0
  ·have he:CB bs pos=true:=by unfold CB;rw[decide_eq_true h8,decide_eq_true hv];rfl
   rw[if_pos he];rw[if_pos hv,if_pos hv] at HA;go_enter Tryz.func141,Tryz.ntmps141;go_wp2_with (first
    |(go_at_call 182;refine HL.out.mono ?_;rintro e1 w1 ⟨rfl,q,rfl⟩)
    |(go_at_call 183;refine (HA.out q).mono ?_;rintro e2 w2 ⟨rfl,hr2,hk2⟩))
   go_ret;exact ⟨rfl,(HB.out.drewN q).trans (hk2.below (fun k _ e=>by omega) (HB.out.drewN q).size)⟩
  ·have he:¬CB bs pos=true:=by unfold CB;rw[decide_eq_false hv];simp
   rw[if_neg he];rw[if_neg hv,if_neg hv] at HA;go_enter Tryz.func141,Tryz.ntmps141;go_wp2_with (first
    |(go_at_call 182;refine HL.out.mono ?_;rintro e1 w1 ⟨rfl,q,rfl⟩)
    |(go_at_call 183;refine (HA.out q).mono ?_;rintro e2 w2 ⟨rfl,hr2,hk2⟩))
   go_ret;exact ⟨rfl,(HB.out.drewN q).trans (hk2.below (fun k _ e=>by omega) (HB.out.drewN q).size)⟩
 ·have d8:decide ((8:Int)≤((8*bs.length-pos:Nat):Int))=true:=decide_eq_true (by omega);have he:¬CB bs pos=true:=by unfold CB;rw[decide_eq_false h8];simp
  rw[if_neg he];go_enter Tryz.func141,Tryz.ntmps141;go_wp2_with (go_at_call 182;refine HL.out.mono ?_;rintro e1 w1 ⟨rfl,q,rfl⟩);go_ret;exact ⟨rfl,HB.out.drewN q⟩
theorem au.Pk {w:World} {g:Nat} {t:TypeId} {x0 x1 x2 x3:Value} (b:au w g t #[x0,x1,x2,x3]) (u0 u1 u2 u3:Value):
 au ((((w.setCell ⟨g,0,none⟩ u0).setCell ⟨g,1,none⟩ u1).setCell ⟨g,2,none⟩ u2).setCell ⟨g,3,none⟩ u3) g t #[u0,u1,u2,u3]:=by
 have:=(((b.av 0 u0).av 1 u1).av 2 u2).av 3 u3;simpa using this
theorem iB {w:World} {g k:Nat} (hk:k≠g) (u0 u1 u2 u3:Value):((((w.setCell ⟨g,0,none⟩ u0).setCell ⟨g,1,none⟩ u1).setCell ⟨g,2,none⟩ u2).setCell ⟨g,3,none⟩ u3).heap[k]? =w.heap[k]? :=
 (Below.heap_setCell _ _ _ _ hk).trans ((Below.heap_setCell _ _ _ _ hk).trans ((Below.heap_setCell _ _ _ _ hk).trans (Below.heap_setCell _ _ _ _ hk)))
theorem Bh {w:World} {g:Nat} (u0 u1 u2 u3:Value):((((w.setCell ⟨g,0,none⟩ u0).setCell ⟨g,1,none⟩ u1).setCell ⟨g,2,none⟩ u2).setCell ⟨g,3,none⟩ u3).heap.size=w.heap.size:=by simp[World.setCell]
theorem pM {w:World} {base n g:Nat} {e t:TypeId} {v:Value} {xs:List Value} {x0 x1 x2 x3:Value} (h:w.ownsRow base e 1 v n xs) (b:au w g t #[x0,x1,x2,x3]) (he:e≠t) (u0 u1 u2 u3:Value):
 ((((w.setCell ⟨g,0,none⟩ u0).setCell ⟨g,1,none⟩ u1).setCell ⟨g,2,none⟩ u2).setCell ⟨g,3,none⟩ u3).ownsRow base e 1 v n xs:=
 aJ (aJ (aJ (aJ h b he u0) (b.av 0 u0) he u1) ((b.av 0 u0).av 1 u1) he u2) (((b.av 0 u0).av 1 u1).av 2 u2) he u3
theorem uN {w W:World} {M:Nat→Obj→Prop} (h:Kept M w W) {g:Nat} (hg:∀o,w.heap[g]? =some o→M g o) (u0 u1 u2 u3:Value):
 Kept M w ((((W.setCell ⟨g,0,none⟩ u0).setCell ⟨g,1,none⟩ u1).setCell ⟨g,2,none⟩ u2).setCell ⟨g,3,none⟩ u3):=
 (((h.setCell (p:=⟨g,0,none⟩) hg u0).setCell (p:=⟨g,1,none⟩) hg u1).setCell (p:=⟨g,2,none⟩) hg u2).setCell (p:=⟨g,3,none⟩) hg u3
def abN (w:World) (r:Nat) (v:Value) (bs:List UInt8) (R:Option (Nk × Bool × Nat)) (e:Ending) (w':World):Prop:=
 Kept (fun k _=>k=r∨w.heap.size≤k) w w'∧((R=none∧e=raise 5)∨∃x more p,R=some (x,more,p)∧e= .returned (.tuple #[.agg (jU x),.bool more])∧jF w' r v bs p)
set_option maxRecDepth 100000 in
set_option maxHeartbeats 2000000 in
theorem GI (r:Nat) (v:Value) (bs:List UInt8) (pos:Nat) (w:World) (h:jF w r v bs pos) (hp:pos≤8*bs.length) (hsm:bs.length≤1000000000):
 Calls Tryz.prog 138 #[.agg #[.pointer (some ⟨r,0,none⟩)]] w (abN w r v bs (GH bs pos)):=by
 obtain ⟨R,hR⟩:∃R,GH bs pos=R:=⟨_,rfl⟩
 rw[hR];have HR:=Lib.hid hR;clear hR;obtain ⟨w2,hw2⟩:∃w2,((w.alloc (.cells #[.pointer (some ⟨r,0,none⟩)] 219)).alloc (.cells #[.int .i64 0,.bool false,.int .i64 0,.int .i64 0] 197)).alloc (.cells #[.int .i64 10,.int .i64 1,.int .i64 1] 3)=w2:=⟨_,rfl⟩
 have hk2:Kept (fun k _=>k=r∨w.heap.size≤k) w w2:=by rw[←hw2];exact (((Kept.refl _ w).alloc _).alloc _).alloc _
 have qY:jF w2 r v bs pos:=by rw[←hw2];exact ⟨((h.1.alloc _).alloc _).alloc _,((h.2.alloc _).alloc _).alloc _⟩
 have bd2:au w2 w.heap.size 219 #[.pointer (some ⟨r,0,none⟩)]:=by rw[←hw2];exact ((au.new w _ _).alloc _).alloc _
 have bn2:au w2 (w.heap.size+1) 197 #[.int .i64 0,.bool false,.int .i64 0,.int .i64 0]:=by
  rw[←hw2];have:=au.new (w.alloc (.cells #[.pointer (some ⟨r,0,none⟩)] 219)) 197 #[.int .i64 0,.bool false,.int .i64 0,.int .i64 0];rw[World.size_alloc] at this;exact this.alloc _
 have bi2:au w2 (w.heap.size+1+1) 3 (iI [10,1,1]).toArray:=by
  rw[←hw2];have:=au.new ((w.alloc (.cells #[.pointer (some ⟨r,0,none⟩)] 219)).alloc (.cells #[.int .i64 0,.bool false,.int .i64 0,.int .i64 0] 197)) 3 #[.int .i64 10,.int .i64 1,.int .i64 1];rw[World.size_alloc,World.size_alloc] at this;exact this
 have hz2:w2.heap.size=w.heap.size+3:=by rw[←hw2];simp
 have hrl:=h.1.lt;have xP:=Lib.hid hk2;have RA:=Lib.hid qY;have K9:=Lib.hid bd2;have HBN:=Lib.hid bn2;have HBI:=Lib.hid bi2;have HZ2:=Lib.hid hz2;clear h hk2 qY bd2 bn2 bi2 hz2;go_enter Tryz.func138,Tryz.ntmps138;go_wp2_with fail;by_cases hs:8*bs.length<pos+12
 ·have oU:R=none:=by rw[←HR.out];unfold GH;rw[if_pos hs]
  have vN:=Lib.hid oU;clear oU;have hga:=jm r (w.heap.size+1+1) v bs pos [10,1,1] w2 RA.out hsm (by simp) (by simp) HBI.out hp (by simp;omega);simp only[List.length_cons,List.length_nil,Nat.zero_add,Nat.reduceAdd] at hga;refine hga.mono ?_;rintro e3 w3 ⟨rfl,lF,hk3⟩;have hk4:=xP.out.trans (hk3.mono fun k _ e=>e.imp id fun e=>by have:=HZ2.out;omega);have zF:=Lib.hid hk4;clear hga hk3 hk4 lF;go_wp2_with (go_at_call 135;((with_reducible refine (uM _ _ _ _ rfl _).mono ?_);rintro e4 w4 ⟨rfl,rfl⟩));exact ⟨rfl,zF.out,.inl ⟨vN.out,rfl⟩⟩
 ·have hga:=mQ r (w.heap.size+1+1) v bs pos [10,1,1] w2 RA.out hsm (by simp) (by simp) HBI.out (by simp;omega);simp only[List.length_cons,List.length_nil,Nat.zero_add,Nat.reduceAdd] at hga;refine hga.mono ?_;rintro e3 w3 ⟨vo,rfl,iH,lF,hk3⟩;have hgv:getAll bs pos [10,1,1]= [val (aH bs pos 10),val (aH bs (pos+10) 1),val (aH bs (pos+11) 1)]:=rfl;rw[hgv] at iH;rw[show pos+ [10,1,1].sum=pos+12 from rfl] at lF;simp only[List.length_cons,List.length_nil,Nat.zero_add,Nat.reduceAdd] at iH;have hx0:val (aH bs pos 10)<1024:=by have:=oW (aH bs pos 10);rw[eT] at this;exact this
  have oF:=HR.out;unfold GH at oF;rw[if_neg hs] at oF;generalize val (aH bs pos 10)=x0 at*;generalize val (aH bs (pos+10) 1)=x1 at*;generalize val (aH bs (pos+11) 1)=x2 at*;have HR1:=Lib.hid oF;have hM:∀k,w.heap.size≤k→k<w.heap.size+3→¬(k=r∨w2.heap.size≤k):=fun k h1 h2 e=>by have:=HZ2.out;omega
  have bd3:=K9.out.kept hk3 (hM _ (by omega) (by omega));have La:=HBN.out.kept hk3 (hM _ (by omega) (by omega));have hk4:=xP.out.trans (hk3.mono fun k _ e=>e.imp id fun e=>by have:=HZ2.out;omega);have hz3:w.heap.size+3≤w3.heap.size:=by have:=hk3.size;have:=HZ2.out;omega
  obtain ⟨gl,Tp,rfl,hgl,kz⟩:=iH.form (by omega);have ah3:w.heap.size+3≤gl:=by have:=HZ2.out;omega
  have l0:w3.drew.cell? ⟨gl,0,none⟩=some (.int .u64 x0):=by have:=iH.cellAt 0 (by omega);simpa[nT] using this
  have l2:w3.drew.cell? ⟨gl,2,none⟩=some (.int .u64 x2):=by have:=iH.cellAt 2 (by omega);simpa[nT] using this
  obtain ⟨n0,n1,n2,n3⟩:w3.drew.cell? ⟨w.heap.size+1,0,none⟩=_∧w3.drew.cell? ⟨w.heap.size+1,1,none⟩=_∧w3.drew.cell? ⟨w.heap.size+1,2,none⟩=_∧w3.drew.cell? ⟨w.heap.size+1,3,none⟩=_:=La.gZ;have f0:w3.drew.frozen? ⟨w.heap.size+1,0,none⟩=false:=La.frozen 0;have f1:w3.drew.frozen? ⟨w.heap.size+1,1,none⟩=false:=La.frozen 1;have f2:w3.drew.frozen? ⟨w.heap.size+1,2,none⟩=false:=La.frozen 2;have f3:w3.drew.frozen? ⟨w.heap.size+1,3,none⟩=false:=La.frozen 3;obtain ⟨m0,m1,m2,m3⟩:=La.gZ;have e0:=La.frozen 0;have e1:=La.frozen 1;have e2:=La.frozen 2;have e3:=La.frozen 3;have hpt:((x2:Int)==1)=decide (x2=1):=by rw[Bool.eq_iff_iff];simp;omega
  have hxw:IntKind.i64.wrap (x0:Int)=(x0:Int):=by rw[IntKind.wrap_i64];omega
  obtain ⟨pt,Tq⟩:∃pt,decide (x2=1)=pt:=⟨_,rfl⟩
  rw[Tq] at hpt;have Tt:=Lib.hid Tq;have VI:=Lib.hid iH;have Tv:=Lib.hid lF;have zF:=Lib.hid hk4;have Xe:=Lib.hid bd3;have Pm:=Lib.hid La;clear hgv hga oF hM bd3 La hk3 hk4 iH lF Tq;go_upto_region 2 with (go_at_call 135;((with_reducible refine (sJ _ _ _ _).mono ?_);rintro e4 w4 ⟨rfl,rfl⟩))
  go_region
  have wP:au ((((w3.setCell ⟨w.heap.size+1,0,none⟩ (.int .i64 x0)).setCell ⟨w.heap.size+1,1,none⟩ (.bool pt)).setCell ⟨w.heap.size+1,2,none⟩ (.int .i64 0)).setCell ⟨w.heap.size+1,3,none⟩ (.int .i64 0)).drew (w.heap.size+1) 197 #[.int .i64 x0,.bool pt,.int .i64 0,.int .i64 0]:=Pm.out.Pk _ _ _ _;have VJ:au ((((w3.setCell ⟨w.heap.size+1,0,none⟩ (.int .i64 x0)).setCell ⟨w.heap.size+1,1,none⟩ (.bool pt)).setCell ⟨w.heap.size+1,2,none⟩ (.int .i64 0)).setCell ⟨w.heap.size+1,3,none⟩ (.int .i64 0)).drew w.heap.size 219 #[.pointer (some ⟨r,0,none⟩)]:=(iB (by omega) _ _ _ _).trans Xe.out;have qZ:jF ((((w3.setCell ⟨w.heap.size+1,0,none⟩ (.int .i64 x0)).setCell ⟨w.heap.size+1,1,none⟩ (.bool pt)).setCell ⟨w.heap.size+1,2,none⟩ (.int .i64 0)).setCell ⟨w.heap.size+1,3,none⟩ (.int .i64 0)).drew r v bs (pos+12):=⟨(iB (by omega) _ _ _ _).trans Tv.out.1,(pM Tv.out.2 Pm.out (by decide) _ _ _ _).drew'⟩;have mV:=(pM VI.out Pm.out (by decide) (.int .i64 x0) (.bool pt) (.int .i64 0) (.int .i64 0)).drew';have hk5:=(uN zF.out (g:=w.heap.size+1) (fun _ _=> .inr (by omega)) (.int .i64 x0) (.bool pt) (.int .i64 0) (.int .i64 0)).drew
  have I8:w.heap.size+3≤((((w3.setCell ⟨w.heap.size+1,0,none⟩ (.int .i64 x0)).setCell ⟨w.heap.size+1,1,none⟩ (.bool pt)).setCell ⟨w.heap.size+1,2,none⟩ (.int .i64 0)).setCell ⟨w.heap.size+1,3,none⟩ (.int .i64 0)).drew.heap.size:=Nat.le_trans hz3 (Nat.le_of_eq (Bh (w:=w3) (g:=w.heap.size+1) (.int .i64 x0) (.bool pt) (.int .i64 0) (.int .i64 0)).symm);generalize ((((w3.setCell ⟨w.heap.size+1,0,none⟩ (.int .i64 x0)).setCell ⟨w.heap.size+1,1,none⟩ (.bool pt)).setCell ⟨w.heap.size+1,2,none⟩ (.int .i64 0)).setCell ⟨w.heap.size+1,3,none⟩ (.int .i64 0)).drew=w5 at*;clear l0 l2 n0 n1 n2 n3 f0 f1 f2 f3 m0 m1 m2 m3 e0 e1 e2 e3 VI Tv zF Xe Pm hz3;have hb1:((x1:Int)==1)=decide (x1=1):=by rw[Bool.eq_iff_iff];simp;omega
  cases pt with
  |false=>
   have l1:w5.drew.cell? ⟨gl,1,none⟩=some (.int .u64 x1):=by have:=mV.cellAt 1 (by omega);simpa[nT] using this
   have Xf:w5.cell? ⟨gl,1,none⟩=some (.int .u64 x1):=l1;obtain ⟨n0,n1,n2,n3⟩:w5.drew.cell? ⟨w.heap.size+1,0,none⟩=_∧w5.drew.cell? ⟨w.heap.size+1,1,none⟩=_∧w5.drew.cell? ⟨w.heap.size+1,2,none⟩=_∧w5.drew.cell? ⟨w.heap.size+1,3,none⟩=_:=wP.gZ;have f0:w5.drew.frozen? ⟨w.heap.size+1,0,none⟩=false:=wP.frozen 0;have f1:w5.drew.frozen? ⟨w.heap.size+1,1,none⟩=false:=wP.frozen 1;have f2:w5.drew.frozen? ⟨w.heap.size+1,2,none⟩=false:=wP.frozen 2;have f3:w5.drew.frozen? ⟨w.heap.size+1,3,none⟩=false:=wP.frozen 3;obtain ⟨m0,m1,m2,m3⟩:=wP.gZ;have e0:=wP.frozen 0;have e1:=wP.frozen 1;have e2:=wP.frozen 2;have e3:=wP.frozen 3;have Xg:=Lib.hid wP;have Xh:=Lib.hid qZ;have rW:=Lib.hid hk5;clear wP qZ hk5 mV VJ;go_upto_region 6 with fail
   go_region
   all_goals
    have Pn:=Xg.out.Pk (.int .i64 x0) (.bool false) (.int .i64 0) (.int .i64 0);have sK:jF ((((w5.setCell ⟨w.heap.size+1,0,none⟩ (.int .i64 x0)).setCell ⟨w.heap.size+1,1,none⟩ (.bool false)).setCell ⟨w.heap.size+1,2,none⟩ (.int .i64 0)).setCell ⟨w.heap.size+1,3,none⟩ (.int .i64 0)).drew r v bs (pos+12):=⟨(iB (by omega) _ _ _ _).trans Xh.out.1,(pM Xh.out.2 Xg.out (by decide) _ _ _ _).drew'⟩;have lG:=(uN rW.out (g:=w.heap.size+1) (fun _ _=> .inr (by omega)) (.int .i64 x0) (.bool false) (.int .i64 0) (.int .i64 0)).drew;obtain ⟨p0,p1,p2,p3⟩:=Pn.gZ;have hfin:=HR1.out;rw[if_neg (of_decide_eq_false Tt.out)] at hfin;have iW:=Lib.hid hfin;go_wp2_with fail;refine bodyPost_ret (v:= .tuple #[.agg #[.int .i64 x0,.bool false,.int .i64 0,.int .i64 0],.bool (decide (x1=1))]) ?_ rfl ?_
    ·simp[results,Tryz.results138,go_sem,p0,p1,p2,p3]
    ·exact ⟨lG,.inr ⟨_,_,_,iW.out.symm,rfl,sK⟩⟩
  |true=>
   have hR2:=HR1.out;rw[if_pos (of_decide_eq_true Tt.out)] at hR2;have HR2:=Lib.hid hR2;have d0:=VJ.cell 0;have m1:=wP.cell 1;simp at d0 m1;have sK:jF (w5.alloc (.cells #[.int .i64 15,.int .i64 15] 3)) r v bs (pos+12):=⟨qZ.1.alloc _,qZ.2.alloc _⟩;have bi6:au (w5.alloc (.cells #[.int .i64 15,.int .i64 15] 3)) w5.heap.size 3 (iI [15,15]).toArray:=au.new w5 3 #[.int .i64 15,.int .i64 15];have Pn:=wP.alloc (.cells #[.int .i64 15,.int .i64 15] 3);have Po:=mV.alloc (.cells #[.int .i64 15,.int .i64 15] 3);have lG:=hk5.alloc (.cells #[.int .i64 15,.int .i64 15] 3);have I7:(w5.alloc (.cells #[.int .i64 15,.int .i64 15] 3)).heap.size=w5.heap.size+1:=by simp
   have ah4:gl<w5.heap.size:=by
    have:=World.block_lt_of_cell? w5 _ (mV.cellAt 0 (by omega));simpa using this
   have JP:=Lib.hid I7;have xW:=Lib.hid Pn;have Xi:=Lib.hid Po;have rX:=Lib.hid lG;clear hR2 HR1 wP VJ qZ mV hk5 Pn Po lG I7;go_wp2_with fail;by_cases hs2:8*bs.length<pos+42
   ·have oU:=HR2.out;rw[if_pos hs2] at oU;have vN:=Lib.hid oU.symm;clear oU;have hga:=jm r w5.heap.size v bs (pos+12) [15,15] _ sK hsm (by simp) (by simp) bi6 (by omega) (by simp;omega);simp only[List.length_cons,List.length_nil,Nat.zero_add,Nat.reduceAdd] at hga;refine hga.mono ?_;rintro e7 w7 ⟨rfl,Ma,wO⟩;have L8:=rX.out.trans (wO.mono fun k _ e=>e.imp id fun e=>by have:=JP.out;omega);have Ol:=Lib.hid L8;clear hga wO L8 Ma;go_wp2_with (go_at_call 135;((with_reducible refine (uM _ _ _ _ rfl _).mono ?_);rintro e4 w4 ⟨rfl,rfl⟩));exact ⟨rfl,Ol.out,.inl ⟨vN.out,rfl⟩⟩
   ·have hga:=mQ r w5.heap.size v bs (pos+12) [15,15] _ sK hsm (by simp) (by simp) bi6 (by simp;omega);simp only[List.length_cons,List.length_nil,Nat.zero_add,Nat.reduceAdd] at hga;refine hga.mono ?_;rintro e7 w7 ⟨Tw,rfl,JQ,Ma,wO⟩;have Xj:getAll bs (pos+12) [15,15]= [val (aH bs (pos+12) 15),val (aH bs (pos+12+15) 15)]:=rfl;rw[Xj,show pos+12+15=pos+27 by omega] at JQ;rw[show pos+12+ [15,15].sum=pos+42 by simp] at Ma;have oU:=HR2.out;rw[if_neg hs2] at oU;have hx3:val (aH bs (pos+12) 15)<32768:=by have:=oW (aH bs (pos+12) 15);rw[eT] at this;exact this
    have hx4:val (aH bs (pos+27) 15)<32768:=by have:=oW (aH bs (pos+27) 15);rw[eT] at this;exact this
    generalize val (aH bs (pos+12) 15)=x3 at*;generalize val (aH bs (pos+27) 15)=x4 at*;simp only[List.length_cons,List.length_nil,Nat.zero_add,Nat.reduceAdd] at JQ;obtain ⟨g2,cap2,rfl,hg2,ah5⟩:=JQ.form (by omega);have ah6:w5.heap.size<g2:=by have:=JP.out;omega
    have hM:∀k,w.heap.size≤k→k≤w5.heap.size→¬(k=r∨(w5.alloc (.cells #[.int .i64 15,.int .i64 15] 3)).heap.size≤k):=fun k h1 h2 e=>by have:=JP.out;omega
    have RB:=xW.out.kept wO (hM _ (by omega) (by omega));have Tx:=jl Xi.out wO (fun k o _ hk=>by
     have e:gl=k:=by simpa[Value.ownBlock] using hk
     subst e;exact hM _ (by omega) (by omega))
    have L8:=rX.out.trans (wO.mono fun k _ e=>e.imp id fun e=>by have:=JP.out;omega);have l0:w7.drew.cell? ⟨g2,0,none⟩=some (.int .u64 x3):=by have:=JQ.cellAt 0 (by omega);simpa[nT] using this
    have l1:w7.drew.cell? ⟨g2,1,none⟩=some (.int .u64 x4):=by have:=JQ.cellAt 1 (by omega);simpa[nT] using this
    have l0':w7.cell? ⟨g2,0,none⟩=some (.int .u64 x3):=l0;have Xf:w7.cell? ⟨g2,1,none⟩=some (.int .u64 x4):=l1;obtain ⟨n0,n1,n2,n3⟩:w7.drew.cell? ⟨w.heap.size+1,0,none⟩=_∧w7.drew.cell? ⟨w.heap.size+1,1,none⟩=_∧w7.drew.cell? ⟨w.heap.size+1,2,none⟩=_∧w7.drew.cell? ⟨w.heap.size+1,3,none⟩=_:=RB.gZ;obtain ⟨m0,m1,m2,m3⟩:=RB.gZ;have f2:w7.drew.frozen? ⟨w.heap.size+1,2,none⟩=false:=RB.frozen 2;have f3:w7.drew.frozen? ⟨w.heap.size+1,3,none⟩=false:=RB.frozen 3;have e2:=RB.frozen 2;have e3:=RB.frozen 3;have hw3:IntKind.i64.wrap (x3:Int)=(x3:Int):=by rw[IntKind.wrap_i64];omega
    have hw4:IntKind.i64.wrap (x4:Int)=(x4:Int):=by rw[IntKind.wrap_i64];omega
    have vN:=Lib.hid oU;have Ty:=Lib.hid Ma;have Xk:=Lib.hid Tx;have Ol:=Lib.hid L8;have JR:=Lib.hid RB;clear Xj hga JQ Ma wO oU Tx L8 RB xW Xi rX HR2 hM;go_upto_region 5 with (go_at_call 135;((with_reducible refine (sJ _ _ _ _).mono ?_);rintro e4 w4 ⟨rfl,rfl⟩))
    go_region
    have Lb:au ((w7.setCell ⟨w.heap.size+1,2,none⟩ (.int .i64 x3)).setCell ⟨w.heap.size+1,3,none⟩ (.int .i64 x4)).drew (w.heap.size+1) 197 #[.int .i64 x0,.bool true,.int .i64 x3,.int .i64 x4]:=by
     have h8:au ((w7.setCell ⟨w.heap.size+1,2,none⟩ (.int .i64 x3)).setCell ⟨w.heap.size+1,3,none⟩ (.int .i64 x4)) (w.heap.size+1) 197 #[.int .i64 x0,.bool true,.int .i64 x3,.int .i64 x4]:=by simpa using (JR.out.av 2 (.int .i64 x3)).av 3 (.int .i64 x4)
     exact h8
    have Xl:jF ((w7.setCell ⟨w.heap.size+1,2,none⟩ (.int .i64 x3)).setCell ⟨w.heap.size+1,3,none⟩ (.int .i64 x4)).drew r v bs (pos+42):=⟨(Below.heap_setCell _ _ _ _ (by show r≠w.heap.size+1;omega)).trans ((Below.heap_setCell _ _ _ _ (by show r≠w.heap.size+1;omega)).trans Ty.out.1),(aJ (aJ Ty.out.2 JR.out (by decide) (.int .i64 x3)) (JR.out.av 2 (.int .i64 x3)) (by decide) (.int .i64 x4)).drew'⟩;have Xm:=(aJ (i:=3) (aJ (i:=2) Xk.out JR.out (by decide) (.int .i64 x3)) (JR.out.av 2 (.int .i64 x3)) (by decide) (.int .i64 x4)).drew';have Pp:=((Ol.out.setCell (p:=⟨w.heap.size+1,2,none⟩) (fun _ _=> .inr (by show w.heap.size≤w.heap.size+1;omega)) (.int .i64 x3)).setCell (p:=⟨w.heap.size+1,3,none⟩) (fun _ _=> .inr (by show w.heap.size≤w.heap.size+1;omega)) (.int .i64 x4)).drew;generalize ((w7.setCell ⟨w.heap.size+1,2,none⟩ (.int .i64 x3)).setCell ⟨w.heap.size+1,3,none⟩ (.int .i64 x4)).drew=w8 at*;clear l0 l1 l0' Xf n0 n1 n2 n3 m0 m1 m2 m3 f2 f3 e2 e3 Xk Ty Ol JR;have l1:w8.drew.cell? ⟨gl,1,none⟩=some (.int .u64 x1):=by have:=Xm.cellAt 1 (by omega);simpa[nT] using this
    have Xf:w8.cell? ⟨gl,1,none⟩=some (.int .u64 x1):=l1;obtain ⟨n0,n1,n2,n3⟩:w8.drew.cell? ⟨w.heap.size+1,0,none⟩=_∧w8.drew.cell? ⟨w.heap.size+1,1,none⟩=_∧w8.drew.cell? ⟨w.heap.size+1,2,none⟩=_∧w8.drew.cell? ⟨w.heap.size+1,3,none⟩=_:=Lb.gZ;have f0:w8.drew.frozen? ⟨w.heap.size+1,0,none⟩=false:=Lb.frozen 0;have f1:w8.drew.frozen? ⟨w.heap.size+1,1,none⟩=false:=Lb.frozen 1;have f2:w8.drew.frozen? ⟨w.heap.size+1,2,none⟩=false:=Lb.frozen 2;have f3:w8.drew.frozen? ⟨w.heap.size+1,3,none⟩=false:=Lb.frozen 3;obtain ⟨m0,m1,m2,m3⟩:=Lb.gZ;have e0:=Lb.frozen 0;have e1:=Lb.frozen 1;have e2:=Lb.frozen 2;have e3:=Lb.frozen 3;have Xn:=Lib.hid Lb;have zW:=Lib.hid Xl;have Pq:=Lib.hid Pp;clear Lb Xl Pp Xm;go_upto_region 6 with fail
    go_region
    all_goals
     have Pn:=Xn.out.Pk (.int .i64 x0) (.bool true) (.int .i64 x3) (.int .i64 x4);have sK:jF ((((w8.setCell ⟨w.heap.size+1,0,none⟩ (.int .i64 x0)).setCell ⟨w.heap.size+1,1,none⟩ (.bool true)).setCell ⟨w.heap.size+1,2,none⟩ (.int .i64 x3)).setCell ⟨w.heap.size+1,3,none⟩ (.int .i64 x4)).drew r v bs (pos+42):=⟨(iB (by omega) _ _ _ _).trans zW.out.1,(pM zW.out.2 Xn.out (by decide) _ _ _ _).drew'⟩;have lG:=(uN Pq.out (g:=w.heap.size+1) (fun _ _=> .inr (by omega)) (.int .i64 x0) (.bool true) (.int .i64 x3) (.int .i64 x4)).drew;obtain ⟨p0,p1,p2,p3⟩:=Pn.gZ;go_wp2_with fail;refine bodyPost_ret (v:= .tuple #[.agg #[.int .i64 x0,.bool true,.int .i64 x3,.int .i64 x4],.bool (decide (x1=1))]) ?_ rfl ?_
     ·simp[results,Tryz.results138,go_sem,p0,p1,p2,p3]
     ·exact ⟨lG,.inr ⟨_,_,_,vN.out.symm,rfl,sK⟩⟩
end
section
open Go.RowKit Go.Shelf
theorem GJ (bp be:Nat) (w:World):
 CallsD Tryz.prog 133 #[.pointer (some ⟨bp,0,none⟩),.pointer (some ⟨be,0,none⟩)] .returning w fun e u' w'=>e= .returned (.tuple #[])∧u'= .returning∧w=w':=by
 have hnn:=run_eql_nil_nil (P:=Tryz.prog) w (t:=20) (by kernel_rfl);refine callsD_of_wpS Tryz.func133 rfl fun c₀ cs hu=> ?_
 apply wpS_seq;apply wpS_region;generalize hQ:Exit.thenS _ _=Q;simp[wpOpsS,go_sem,recoverD,hu,Tryz.ntmps133];subst hQ;simp only[Exit.thenS];refine wpS_of_wp ?_;change Code.wp _ _ (iR Tryz.prog Tryz.f133 c₀ cs (c₀::cs) _) {tmps:= #[.pointer (some ⟨bp,0,none⟩),.pointer (some ⟨be,0,none⟩),.nilIface,undef,undef,.nilIface,undef,undef,undef,undef,undef,undef,undef,undef,undef,undef,undef,undef],defers:= []} w;go_wp2;cases c₀
 simp_all [iR,bodyPostS,results,Tryz.results133]
set_option maxHeartbeats 400000 in
set_option maxRecDepth 100000 in
theorem CG (bp be:Nat) (er:Int) (v0 v1 v4:Value) (w:World) (hp:au w bp 133 #[v0,v1]) (he:au w be 53 #[v4]) (hne:be≠bp):
 CallsD Tryz.prog 133 #[.pointer (some ⟨bp,0,none⟩),.pointer (some ⟨be,0,none⟩)] (.panicking [{v:= .iface 53 (.int .i64 er),recovered:=false}]) w fun e u' w'=>e= .returned (.tuple #[])∧u'= .panicking [{v:= .iface 53 (.int .i64 er),recovered:=true}]∧
  au w' bp 133 #[.int .i64 0,.slice none 0 0]∧au w' be 53 #[.int .i64 er]∧Kept (fun k _=>k=bp∨k=be) w w':=by
 have hnn:=run_eql_held_nil (P:=Tryz.prog) w 20 53 (.int .i64 er) (by kernel_rfl);have hta:=kL er w;refine callsD_of_wpS Tryz.func133 rfl fun c₀ cs hu=> ?_
 apply wpS_seq;apply wpS_region;generalize hQ:Exit.thenS _ _=Q;simp[wpOpsS,go_sem,recoverD,hu,Tryz.ntmps133];subst hQ;simp only[Exit.thenS];refine wpS_of_wp ?_;change Code.wp _ _ (iR Tryz.prog Tryz.f133 c₀ cs _ _) {tmps:= #[.pointer (some ⟨bp,0,none⟩),.pointer (some ⟨be,0,none⟩),.iface 53 (.int .i64 er),undef,undef,.iface 53 (.int .i64 er),undef,undef,undef,undef,undef,undef,undef,undef,undef,undef,undef,undef],defers:= []} w;have c0:=hp.cell 0;have c1:=hp.cell 1;have f0:=hp.frozen 0;have f1:=hp.frozen 1;have c4:=he.cell 0;have f4:=he.frozen 0;simp at c0 c1 c4;go_wp2;refine ⟨rfl,_,rfl,.tuple #[],by simp[results,Tryz.results133],rfl,rfl,?_,?_,?_⟩
 ·have:=(hp.av 0 (.int .i64 0)).av 1 (.slice none 0 0);simpa using this.far (p:=⟨be,0,none⟩) (fun e=>hne e.symm) (.int .i64 er)
 ·have:=((he.far (p:=⟨bp,0,none⟩) hne (.int .i64 0)).far (p:=⟨bp,1,none⟩) hne (.slice none 0 0)).av 0 (.int .i64 er);simpa using this
 ·exact (((Kept.refl _ w).setCell (p:=⟨bp,0,none⟩) (fun _ _=> .inl rfl) _).setCell (p:=⟨bp,1,none⟩) (fun _ _=> .inl rfl) _).setCell (p:=⟨be,0,none⟩) (fun _ _=> .inr rfl) _
def GK (w:World) (R:Sum Nat (Nat × List Nk)) (e:Ending) (w':World):Prop:=
 Below w.heap.size w w'∧
 (
  (∃er:Nat,R= .inl er∧e= .returned (.tuple #[.agg #[.int .i64 0,.slice none 0 0],.int .i64 er]))∨
  (∃(aK:Nat) (l:List Nk) (A:Option Addr) (c:Nat),R= .inr (aK,l)∧e= .returned (.tuple #[.agg #[.int .i64 aK,.slice A l.length c],.int .i64 0])∧bI w' A l.length c l∧∀ad,A=some ad→w.heap.size≤ad.block))
theorem iX (w W:World) (R:Sum Nat (Nat × List Nk)) (er:Nat) (T:Array Value) (v0 v1 v4:Value) (h2:T[2]? =some (.pointer (some ⟨w.heap.size,0,none⟩))) (h3:T[3]? =some (.pointer (some ⟨w.heap.size+1,0,none⟩)))
 (hp:au W w.heap.size 133 #[v0,v1]) (he:au W (w.heap.size+1) 53 #[v4]) (hB:Below w.heap.size w W) (hR:R= .inl er):
 bodyPostD Tryz.prog Tryz.f92 (GK w R) (.panic [{v:= .iface 53 (.int .i64 er),recovered:=false}]) {tmps:=T,defers:= [{target:= .fn (.func 133) #[.pointer (some ⟨w.heap.size,0,none⟩),.pointer (some ⟨w.heap.size+1,0,none⟩)],args:= #[]}]} W:=by
 refine leaves_cons (f:=133) (args:= #[.pointer (some ⟨w.heap.size,0,none⟩),.pointer (some ⟨w.heap.size+1,0,none⟩)]) (by simp) (by simp[go_sem]) ?_;refine (CG _ _ (er:Int) _ _ _ W hp he (by omega)).mono ?_;rintro e u' w'' ⟨rfl,rfl,hp',he',hk⟩;have c0:=hp'.cell 0;have c1:=hp'.cell 1;have c4:=he'.cell 0;simp at c0 c1 c4;refine ⟨.tuple #[.agg #[.int .i64 0,.slice none 0 0],.int .i64 er],?_,hB.trans (hk.below (fun k _ e=>by omega) hB.size),.inl ⟨er,hR,rfl⟩⟩;simp[results,Tryz.results92,go_sem,h2,h3,c0,c1,c4]
end
end Go.Proofs.YtbhiklnljiehiaaGreat
