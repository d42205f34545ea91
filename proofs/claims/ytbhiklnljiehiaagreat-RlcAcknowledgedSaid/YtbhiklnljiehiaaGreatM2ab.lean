/- The bit writer: add appends one bit. The. -/
import Derived.Test.YtbhiklnljiehiaaGreatM2aa
import Derived.BigRegion
import Derived.Laws.BitsAllLaws
import Derived.RangeFuncBound
import Derived.RangeFuncCalls
import Derived.RangeFuncLeaves
import Derived.Shelf.Abstract
import Derived.Shelf.RegionOpen
import Derived.OwnWalkIn
import Derived.TacticsInMore
import Derived.LoopNIn
import Derived.LoopIn
import Derived.Lib.AppendZeros
namespace Go.Proofs.YtbhiklnljiehiaaGreat
open Go.RowKit
theorem qK:(Tryz.prog.info? 5).map (fun i=>(i.zero,i.size,i.bytes))=some (some (.int .u8 0),1,1):=by kernel_rfl
theorem und29:Tryz.prog.underlying 31=some (.slice 5):=by kernel_rfl
def nR (w:World) (B g:Nat) (l:List Bool):Prop:=
 B≤g∧∃v,au w g 202 #[v,.int .i64 (l.length:Nat)]∧w.ownsRow B 5 1 v (pack l).length (bO (pack l))
def Mw (B g:Nat) (k:Nat) (o:Obj):Prop:=B≤k∧(k=g∨Kw o 5)
theorem Mw.NW {B g k:Nat} {a w:World} {o o':Obj} (h:Kept (Mw B g) a w) (ho:a.heap[k]? =some o) (hw:w.heap[k]? =some o') (hr:Kw o' 5) (hB:B≤k):Mw B g k o:=by
 by_cases hm:Mw B g k o
 ·exact hm
 ·have:=h.same k o ho hm;rw[hw] at this;cases this;exact ⟨hB,.inr hr⟩
theorem NY (l:List UInt8) (b:UInt8):bO l++ [bv b]=bO (l++ [b]):=by simp[bO]
theorem Rs (l:List UInt8) (i:Nat) (b:UInt8):(bO l).set i (bv b)=bO (l.set i b):=by simp[bO,List.map_set]
theorem VD (b:Bool) (n:Nat) (h:n%8=0):Value.int .u8 (bits .or .u8 0 ((b.toNat:Int)*2 ^ (7-n%8)%256))=bv (UInt8.ofNat (b.toNat*2 ^ 7)):=by
 rw[h];cases b<;>simp[bv]<;>rfl
theorem Zc (l:List Bool) (b:Bool) (_h:l.length%8≠0):
 Value.int .u8 (bits .or .u8 ((UInt8.ofNat (fV l (l.length/8))).toNat:Int) ((b.toNat:Int)*2 ^ (7-l.length%8)%256))=bv (UInt8.ofNat (fV l (l.length/8)|||b.toNat*2 ^ (7-l.length%8))):=by
 have hlt:=yx l (l.length/8);have hb:b.toNat*2 ^ (7-l.length%8)<256:=by
  have h1:b.toNat*2 ^ (7-l.length%8)≤1*2 ^ 7:=Nat.mul_le_mul (by cases b<;>simp) (Nat.pow_le_pow_right (by omega) (by omega));omega
 have e:(b.toNat:Int)*2 ^ (7-l.length%8)%256=((b.toNat*2 ^ (7-l.length%8):Nat):Int):=by
  rw[Int.emod_eq_of_lt]
  ·push_cast;rfl
  ·exact Int.mul_nonneg (by omega) (Int.le_of_lt (Int.pow_pos (by omega)))
  ·have:((b.toNat*2 ^ (7-l.length%8):Nat):Int)<256:=by omega
   push_cast at this
   exact this
 have e2:(UInt8.ofNat (fV l (l.length/8))).toNat=fV l (l.length/8):=by simp;omega
 rw[e,e2,u8_or_nat _ _ hlt hb,bv]
 congr 2
 have:fV l (l.length/8)|||b.toNat*2 ^ (7-l.length%8)<2 ^ 8:=Nat.or_lt_two_pow hlt hb
 rw[UInt8.toNat_ofNat',Nat.mod_eq_of_lt this]
set_option maxHeartbeats 800000 in
theorem Rt (B g:Nat) (l:List Bool) (b:Bool) (w:World) (h:nR w B g l) (h0:l.length%8=0) (hsm:l.length<1000000000):
 Calls Tryz.prog 203 #[.pointer (some ⟨g,0,none⟩),.int .u8 b.toNat] w fun e w'=>e= .returned (.tuple #[])∧nR w' B g (l++ [b])∧Kept (Mw B g) w w':=by
 obtain ⟨hBg,v,hg,hv⟩:=h;have hc0:=hg.cell 0;have hc1:=hg.cell 1;have hf0:=hg.frozen 0;have hf1:=hg.frozen 1;simp at hc0 hc1;obtain ⟨i0,hi,hz0,hz1,hz2⟩:=info_parts qK;have h8:((l.length:Int)%8==0)=true:=by simp;omega
 have hP:pack (l++ [b])=pack l++ [UInt8.ofNat (b.toNat*2 ^ 7)]:=AY l b h0;have hL:(pack l).length=l.length/8:=by simp[bJ];omega
 have HP:=ah hP;have HL:=ah hL;have H0:=ah h0;clear hP hL h0;generalize hps:pack l=ps at*;generalize hn:l.length=n at*;have Ru:=ah hps;have HN:=ah hn;clear hps hn;have hlen:ps.length<1000000000:=by have:=HL.out;omega
 have e1:((n:Int)/8).toNat=ps.length:=by have:=HL.out;omega
 have hlt:=hg.lt;go_enter Tryz.func203,Tryz.ntmps203;go_wp2_with (at_builtin;refine wpList_append_own _ rfl _ _ 31 rfl B 5 i0 (.int .u8 0) 1 1 und29 hi hz0 hz1 hz2 rfl (by decide) _ _ _ rfl (hv.alloc _) ⟨w.heap.size,0,none⟩ 1 1 [.int .u8 0] rfl rfl ?c1 ?c2 ?c3 ?c4 ?c5 ?_)
 case c1=>exact cell_one_new _ _ _
 case c2=>simp[Value.oneCell']
 case c3=>unfold maxLen;omega
 case c4=>omega
 case c5=>simp;omega
 intro v' w1 hown' hgrow _;have hg1:au w1 g 202 #[v,.int .i64 n]:=(hg.alloc _).grown hgrow (fun e=>aJ hv hg (by decide) e.symm);have hk1:Kept (Mw B g) w w1:=((Kept.refl _ w).alloc _).grown hgrow (by
  intro k hk o ho;obtain ⟨o',ho',hr,hb⟩:=bU hv hk;rw[ho] at ho';cases ho';exact ⟨hb,.inr hr⟩)
 have hc0:=hg1.cell 0;have hc1:=hg1.cell 1;have hf0:=hg1.frozen 0;have hf1:=hg1.frozen 1;simp at hc0 hc1;obtain ⟨g',cap',rfl,hgl,kL⟩:=hown'.form (by omega);have hne:g≠g':=by
  intro e;subst e;exact aJ hown' hg1 (by decide) rfl
 have hg2:=hg1.av 0 (.slice (some ⟨g',0,none⟩) (ps.length+1) cap');have hk2:=hk1.setCell (p:=⟨g,0,none⟩) (fun _ _=>⟨hBg,.inl rfl⟩) (.slice (some ⟨g',0,none⟩) (ps.length+1) cap');have hown2:(w1.setCell ⟨g,0,none⟩ (.slice (some ⟨g',0,none⟩) (ps.length+1) cap')).ownsRow B 5 1 (.slice (some ⟨g',0,none⟩) (ps.length+1) cap') (ps.length+1) (bO ps++ [Value.int IntKind.u8 0]):=
  hown'.kept (grownBy_setCell' w1 g _) (.inr (by simp[Value.ownBlock];omega))
 simp at hg2;have hsz2:w1.heap.size=(w1.setCell ⟨g,0,none⟩ (.slice (some ⟨g',0,none⟩) (ps.length+1) cap')).heap.size:=by simp[World.setCell]
 go_wp2;generalize w1.setCell ⟨g,0,none⟩ (.slice (some ⟨g',0,none⟩) (ps.length+1) cap')=w2 at*;clear hf0 hf1 hc0 hc1 hg1 hown' hk1 hgrow hsz2;have hc0:=hg2.cell 0;have hc1:=hg2.cell 1;have hf0:=hg2.frozen 0;have hf1:=hg2.frozen 1;simp at hc0 hc1;have hcb:=hown2.cellAt ps.length (by omega);have hfb:=hown2.frozenAt ps.length;simp at hcb
 go_region
 have ho:=VD b n H0.out;have HO:=ah ho;clear ho;generalize hval:Value.int .u8 (bits .or .u8 0 ((b.toNat:Int)*2 ^ (7-n%8)%256))=val at*;go_wp2
 go_end0
 refine ⟨rfl,⟨hBg,.slice (some ⟨g',0,none⟩) (ps.length+1) cap',?_,?_⟩,?_⟩
 ·have h3:=(hg2.far (p:=⟨g',ps.length,none⟩) hne val).av 1 (.int .i64 ((n:Int)+1));simpa[HN.out] using h3.drew
 ·have h3:=(hown2.stored ps.length val).1;have e:(bO ps++ [Value.int .u8 0]).set ps.length val=bO ps++ [val]:=by simp
  rw[HP.out,←NY,←HO.out];rw[e] at h3;have h4:=h3.kept (aO _ g 1 (.int .i64 ((n:Int)+1))) (.inr (by simp[Value.ownBlock];omega));simpa using h4.drew'
 ·exact ((hk2.setCell (p:=⟨g',ps.length,none⟩) (fun o ho=>by
   obtain ⟨o',ho',hr,_⟩:=bU hown2 (k:=g') rfl;exact Mw.NW hk2 ho ho' hr hgl) val).setCell (p:=⟨g,1,none⟩) (fun _ _=>⟨hBg,.inl rfl⟩) _).drew
set_option maxHeartbeats 800000 in
theorem VE (B g:Nat) (l:List Bool) (b:Bool) (w:World) (h:nR w B g l) (h0:l.length%8≠0) (hsm:l.length<1000000000):
 Calls Tryz.prog 203 #[.pointer (some ⟨g,0,none⟩),.int .u8 b.toNat] w fun e w'=>e= .returned (.tuple #[])∧nR w' B g (l++ [b])∧Kept (Mw B g) w w':=by
 obtain ⟨hBg,v,hg,hv⟩:=h;have hc0:=hg.cell 0;have hc1:=hg.cell 1;have hf0:=hg.frozen 0;have hf1:=hg.frozen 1;simp at hc0 hc1;have h8:((l.length:Int)%8==0)=false:=by simp;omega
 have hP:pack (l++ [b])=(pack l).set (l.length/8) (UInt8.ofNat (fV l (l.length/8)|||b.toNat*2 ^ (7-l.length%8))):=Dw l b h0;have hL:(pack l).length=l.length/8+1:=by simp[bJ];omega
 have hO:=Zc l b h0;have hold:(pack l)[l.length/8]? =some (UInt8.ofNat (fV l (l.length/8))):=lm l _ (by simp[bJ];omega);have hL':(pack (l++ [b])).length=(pack l).length:=by rw[hP];simp
 have HP:=ah hP;have HL:=ah hL;have HO:=ah hO;have HL':=ah hL';clear hP hL h0 hO hL';obtain ⟨g',cap',rfl,hgl,kL⟩:=hv.form (by rw[HL.out];omega);have hne:g≠g':=by
  intro e;subst e;exact aJ hv hg (by decide) rfl
 have hcb:=hv.cellAt (l.length/8) (by rw[HL.out];omega);have hfb:=hv.frozenAt (l.length/8);have NZ:w.cell? ⟨g',l.length/8,none⟩=some (.int .u8 ((UInt8.ofNat (fV l (l.length/8))).toNat:Int)):=by
  rw[hcb];simp only[bO,List.getElem?_map,hold];rfl
 generalize hps:pack l=ps at*;generalize hq:(UInt8.ofNat (fV l (l.length/8))).toNat=q at*;clear hcb hq hold;generalize hn:l.length=n at*;have Ru:=ah hps;have HN:=ah hn;clear hps hn;have hlen:ps.length<1000000000:=by have:=HL.out;omega
 have e1:((n:Int)/8).toNat=n/8:=by omega
 have e2:(n:Int)/8<ps.length:=by have:=HL.out;omega
 have hlt:=hg.lt;go_enter Tryz.func203,Tryz.ntmps203;go_wp2
 go_region
 generalize hval:Value.int .u8 (bits .or .u8 (q:Int) ((b.toNat:Int)*2 ^ (7-n%8)%256))=val at*;clear hval;go_wp2
 go_end0
 refine ⟨rfl,⟨hBg,.slice (some ⟨g',0,none⟩) ps.length cap',?_,?_⟩,?_⟩
 ·have h3:=(hg.far (p:=⟨g',n/8,none⟩) hne val).av 1 (.int .i64 ((n:Int)+1));simpa[HN.out] using h3.drew
 ·have h3:=(hv.stored (n/8) val).1;rw[HL'.out,HP.out,←Rs,←HO.out];have h4:=h3.kept (aO _ g 1 (.int .i64 ((n:Int)+1))) (.inr (by simp[Value.ownBlock];omega));simpa using h4.drew'
 ·exact (((Kept.refl _ w).setCell (p:=⟨g',n/8,none⟩) (fun o ho=>by
   obtain ⟨o',ho',hr,_⟩:=bU hv (k:=g') rfl;exact Mw.NW (Kept.refl _ w) ho ho' hr hgl) val).setCell (p:=⟨g,1,none⟩) (fun _ _=>⟨hBg,.inl rfl⟩) _).drew
theorem Rv (B g:Nat) (l:List Bool) (b:Bool) (w:World) (h:nR w B g l) (hsm:l.length<1000000000):
 Calls Tryz.prog 203 #[.pointer (some ⟨g,0,none⟩),.int .u8 b.toNat] w fun e w'=>e= .returned (.tuple #[])∧nR w' B g (l++ [b])∧Kept (Mw B g) w w':=by
 by_cases h0:l.length%8=0
 ·exact Rt B g l b w h h0 hsm
 ·exact VE B g l b w h h0 hsm
end Go.Proofs.YtbhiklnljiehiaaGreat
namespace Go.Proofs.YtbhiklnljiehiaaGreat
open Go.RowKit Go.Shelf
attribute [local go_sem] Oper.semAt_some
theorem Fh (v n k:Nat) (h:k<n):(bitsOf v n).take k++ [decide (v/2 ^ (n-1-k)%2=1)]=(bitsOf v n).take (k+1):=by
 rw[List.take_add_one]
 congr 1
 simp[bitsOf,h]
theorem Rw (v k:Nat) (h:v<18446744073709551616):bits BinOp.and IntKind.u64 ((v:Int)/2 ^ k) 1%256=((decide (v/2 ^ k%2=1)).toNat:Int):=by
 have e:(v:Int)/2 ^ k=((v/2 ^ k:Nat):Int):=by push_cast;rfl
 have hle:v/2 ^ k≤v:=Nat.div_le_self _ _;rw[e];have h1:=u64_and_nat (v/2 ^ k) 1 (by omega) (by omega);have h1':bits BinOp.and IntKind.u64 ((v/2 ^ k:Nat):Int) 1=((v/2 ^ k&&& 1:Nat):Int):=h1;rw[h1',Nat.and_one_is_mod];rcases Nat.mod_two_eq_zero_or_one (v/2 ^ k) with h2|h2<;>simp[h2]
theorem jh {n:Nat} {P:Program} {c:Code} {Q:Exit→Act→World→Prop} {a:Act} {w:World} (h:c.wpIn Fence.wide n P (Exit.noGoto Q) a w):(Code.scope c).wpIn Fence.wide n P Q a w:=
 wpIn_wide.2 (wp_scope_straight (wpIn_wide.1 h))
set_option maxRecDepth 100000 in
set_option maxHeartbeats 2000000 in
theorem Fj (n:Nat) (hn:1≤n) (Bw Bv v width:Nat) (hv64:v<18446744073709551616) (hwd:width≤64) (M:Nat→Obj→Prop) (w:World)
 (hw:au w Bw 3 #[.int .i64 width]) (hv:au w Bv 204 #[.int .u64 v]) (hMw:¬M Bw (.cells #[.int .i64 width] 3 (0,0))) (N5:¬M Bv (.cells #[.int .u64 v] 204 (0,0))):
 SeqStopsK Fence.wide n Tryz.prog 220 #[.pointer (some ⟨Bw,0,none⟩),.pointer (some ⟨Bv,0,none⟩)] (fun b:Bool=> #[Value.int .u8 b.toNat]) (Kept M)
  (fun xs=>xs=bitsOf v width) (fun _=>True) width w:=fun l J Jx W hW _ _ hY h0=>by
 have hw':=hw.below hW hw.lt;have hv':=hv.below hW hv.lt;refine callsIn_of_wp Tryz.func220 rfl trivial ?_ rfl;simp only[Tryz.ntmps220,List.size_toArray,List.length_cons,List.length_nil,Nat.reduceAdd,Nat.reduceSub,Array.replicate_succ,Array.replicate_zero,List.push_toArray,List.append_toArray,List.nil_append,List.cons_append];have hcw:=hw'.cell 0;simp at hcw;refine jh ?_
 gi_wp2
 refine wpIn_label ?_
 gi_wp2
 gi_loopw [4] (fun i wr=>∃k:Nat,k≤width∧i= .int .i64 ((width:Int)-1-k)∧J ((bitsOf v width).take k) wr∧Kept M W wr)
  (fun i _=>(intOf i+1).toNat)
 case atStart=>exact ⟨0,Nat.zero_le _,by simp,by simpa using h0,Kept.refl _ _⟩
 case round=>
  obtain ⟨k,hk,rfl,hJs,hnx⟩:=hrel;have N6:=hv'.kept hnx N5;have hcv:=N6.cell 0;simp at hcv;by_cases hlt:k<width
  ·obtain ⟨x,hx⟩:∃x:Bool,x=decide (v/2 ^ (width-1-k)%2=1):=⟨_,rfl⟩
   have hbit:bits BinOp.and IntKind.u64 ((v:Int)/2 ^ (width-1-k)) 1%256=(x.toNat:Int):=by rw[hx];exact Rw v _ hv64
   obtain ⟨fn,tmps,assign,body,hy,hR⟩:=hY _ x wr hJs (by simp;omega);have HX:=ah hx;clear hx
   gi_wp2
   refine hR.mono ?_;have hts:(bitsOf v width).take k++ [x]=(bitsOf v width).take (k+1):=by
    rw[HX.out];exact Fh v width k hlt
   rintro e W3 (⟨rfl,hJ3,hk3⟩|⟨rfl,hJx3⟩)
   ·gi_wp2
    go_roundw
    case rel=>exact ⟨k+1,by omega,by go_num,by rw[←hts];exact hJ3,hnx.trans hk3⟩
    case measure=>simp[intOf];omega
   ·gi_wp2
    rw[Exit.noGoto_normal]
    go_end0
    exact ⟨⟨_,rfl⟩,.inr ⟨_,trivial,hJx3⟩⟩
  ·obtain rfl:k=width:=by omega
   gi_wp2
   rw[Exit.noGoto_normal]
   go_end0
   exact ⟨⟨_,rfl⟩,.inl ⟨_,rfl,by rw[List.take_of_length_le (by simp)] at hJs;exact hJs⟩⟩
theorem Ry (n v width:Nat) (w:World):
 CallsIn Fence.wide n Tryz.prog 202 #[.int .u64 v,.int .i64 width] w fun e w'=>e= .returned (.func (.func 220) #[] #[.pointer (some ⟨w.heap.size+1,0,none⟩),.pointer (some ⟨w.heap.size,0,none⟩)])∧
  (w.alloc (.cells #[.int .u64 v] 204)).alloc (.cells #[.int .i64 width] 3)=w':=by
 refine callsIn_of_wp Tryz.func202 rfl trivial ?_ rfl;simp only[Tryz.ntmps202,List.size_toArray,List.length_cons,List.length_nil,Nat.reduceAdd,Nat.reduceSub,Array.replicate_succ,Array.replicate_zero,List.push_toArray,List.append_toArray,List.nil_append,List.cons_append]
 gi_wp2
 go_ret;exact ⟨rfl,rfl⟩
theorem nR.own {w w':World} {B g:Nat} {l:List Bool} (h:nR w B g l) {row:Option Nat} (hg:w.grownBy w' row) (hr:∀r,row=some r→∃o:Obj,w.heap[r]? =some o∧o.isCells=false):nR w' B g l:=by
 obtain ⟨hB,v,hb,hv⟩:=h;refine ⟨hB,v,hb.grown hg (fun e=> ?_),hv.kept hg ?_⟩
 ·obtain ⟨o,ho,hc⟩:=hr g e.symm;rw[show w.heap[g]? =_ from hb] at ho;cases ho;cases hc
 ·rcases hk:v.ownBlock with _|k
  ·exact .inl rfl
  ·refine .inr (fun e=> ?_);obtain ⟨o,ho,hc⟩:=hr k (by rw[←e]);obtain ⟨o',ho',⟨cs,fr,rfl⟩,_⟩:=bU hv hk;rw[ho] at ho';cases ho';cases hc
theorem nR.Lt {w:World} {B g:Nat} {l:List Bool} (h:nR w B g l) {N:Nat}:∀k o,w.heap[k]? =some o→o.isCells=false→N≤k→¬Mw B g k o:=by
 obtain ⟨hB,v,hb,hv⟩:=h;rintro k o ho hc _ ⟨_,rfl|⟨cs,fr,rfl⟩⟩
 ·rw[show w.heap[k]? =_ from hb] at ho;cases ho;cases hc
 ·cases hc
set_option maxRecDepth 100000 in
set_option maxHeartbeats 2000000 in
theorem Rz (B g v width:Nat) (l:List Bool) (w:World) (hv64:v<18446744073709551616) (hwd:width≤64) (h:nR w B g l) (hsm:l.length<100000000):
 Calls Tryz.prog 167 #[.pointer (some ⟨g,0,none⟩),.int .u64 v,.int .i64 width] w fun e w'=>e= .returned (.tuple #[])∧nR w' B g (l++bitsOf v width)∧Kept (Mw B g) w w':=by
 refine (callsIn_wide (n:=5)).1 ?_;have hBg:=h.1;have Zd:g<w.heap.size:=by obtain ⟨_,v,hb,_⟩:=h;exact hb.lt
 refine callsIn_of_wp_marks Tryz.func167 rfl trivial ?_ rfl;simp only[Tryz.ntmps167,List.size_toArray,List.length_cons,List.length_nil,Nat.reduceAdd,Nat.reduceSub,Array.replicate_succ,Array.replicate_zero,List.push_toArray,List.append_toArray,List.nil_append,List.cons_append]
 gi_wp2_with (refine ⟨trivial,?_⟩;gi_at_call 202;refine (Ry _ v width _).mono ?_;rintro e w' ⟨rfl,rfl⟩)
 have adX:au (((w.alloc (.cells #[.pointer (some ⟨g,0,none⟩)] 254)).alloc (.cells #[.int .u64 v] 204)).alloc (.cells #[.int .i64 width] 3)) w.heap.size 254 #[.pointer (some ⟨g,0,none⟩)]:=((au.new w _ _).alloc _).alloc _;have hbv:au (((w.alloc (.cells #[.pointer (some ⟨g,0,none⟩)] 254)).alloc (.cells #[.int .u64 v] 204)).alloc (.cells #[.int .i64 width] 3)) (w.heap.size+1) 204 #[.int .u64 v]:=by
  have:=(au.new (w.alloc (.cells #[.pointer (some ⟨g,0,none⟩)] 254)) 204 #[.int .u64 v]).alloc (.cells #[.int .i64 width] 3);simpa using this
 have hbw:au (((w.alloc (.cells #[.pointer (some ⟨g,0,none⟩)] 254)).alloc (.cells #[.int .u64 v] 204)).alloc (.cells #[.int .i64 width] 3)) (w.heap.size+1+1) 3 #[.int .i64 width]:=by
  have:=au.new ((w.alloc (.cells #[.pointer (some ⟨g,0,none⟩)] 254)).alloc (.cells #[.int .u64 v] 204)) 3 #[.int .i64 width];simpa using this
 have hW0:nR (((w.alloc (.cells #[.pointer (some ⟨g,0,none⟩)] 254)).alloc (.cells #[.int .u64 v] 204)).alloc (.cells #[.int .i64 width] 3)) B g l:=by
  obtain ⟨_,u,hb,hv⟩:=h;exact ⟨hBg,u,((hb.alloc _).alloc _).alloc _,((hv.alloc _).alloc _).alloc _⟩
 have hK0:Kept (Mw B g) w (((w.alloc (.cells #[.pointer (some ⟨g,0,none⟩)] 254)).alloc (.cells #[.int .u64 v] 204)).alloc (.cells #[.int .i64 width] 3)):=(((Kept.refl _ w).alloc _).alloc _).alloc _;have hsz:w.heap.size≤(((w.alloc (.cells #[.pointer (some ⟨g,0,none⟩)] 254)).alloc (.cells #[.int .u64 v] 204)).alloc (.cells #[.int .i64 width] 3)).heap.size:=by simp;omega
 generalize ((w.alloc (.cells #[.pointer (some ⟨g,0,none⟩)] 254)).alloc (.cells #[.int .u64 v] 204)).alloc (.cells #[.int .i64 width] 3)=w1 at*;have nM:∀(k:Nat) (cs:Array Value) (t:TypeId),w.heap.size≤k→t≠5→¬Mw B g k (.cells cs t (0,0)):=by
  rintro k cs t hk ht ⟨_,e|⟨cs',fr,e⟩⟩
  ·omega
  ·cases e;exact ht rfl
 have nB:∀(k:Nat) (cs:Array Value) (t:TypeId),w.heap.size≤k→t≠5→¬MB (Mw B g) w1.heap.size k (.cells cs t (0,0)):=by
  rintro k cs t hk ht (e|⟨_,e⟩)
  ·exact nM k cs t hk ht e
  ·cases e
 refine wpIn_rangeFunc_ownG rfl (by omega) (gf:=220) (lb:= #[.pointer (some ⟨w.heap.size+1+1,0,none⟩),.pointer (some ⟨w.heap.size+1,0,none⟩)]) rfl trivial (enters_of Tryz.func220 (by kernel_rfl) rfl)
  (Fj _ (by omega) (w.heap.size+1+1) (w.heap.size+1) v width hv64 hwd (MB (Mw B g) w1.heap.size) w1 hbw hbv (nB _ _ _ (by omega) (by decide)) (nB _ _ _ (by omega) (by decide)))
  Kept.trans (MB.b w1) (Below.refl _ _) (fun _=>rfl)
  (fun pre W=>nR W B g (l++pre)∧Kept (MB (Mw B g) w1.heap.size) w1 W) (fun _ _ _=>False)
  (OwnFrom.and (Own.from (fun s A C row hs hg hr=>hs.own hg hr) _) tK) (fun _ _ _ _ _ hs _ _=>hs)
  ⟨by simpa using hW0,Kept.refl _ _⟩
  (fun x=> {tmps:= #[.pointer (some ⟨g,0,none⟩),.int .u64 v,.int .i64 width,.pointer (some ⟨w.heap.size,0,none⟩),undef,undef,.int .u8 x.toNat,.int .u64 v,.int .i64 width,.func (.func 220) #[] #[.pointer (some ⟨w.heap.size+1+1,0,none⟩),.pointer (some ⟨w.heap.size+1,0,none⟩)],.int .u8 x.toNat,undef,undef,undef,undef,undef],defers:= []}) ?assign ?body ?done ?stop
 case assign=>
  intro l x W K hK
  gi_wp2
  exact hK
 case body=>
  rintro lp pre x W ⟨Yt,Iw⟩ hlen;have hbx:=(adX.kept Iw (nB _ _ _ (by omega) (by decide))).cell 0;simp at hbx
  gi_wp2_with (refine ⟨trivial,?_⟩;gi_at_call 203;refine (CallsIn.inRound lp ((callsIn_wide (n:=2)).2 (Rv B g (l++pre) x W Yt (by simp;omega)))).mono ?_;rintro e w' ⟨rfl,hw',hk'⟩)
  exact ⟨hk'.from (Yt.Lt),hk'.mb,by simpa using hw',Iw.trans hk'.mb⟩
 case done=>
  rintro D ys W hD rfl ⟨hc,hB⟩ hK
  gi_wp2
  refine ⟨by simp,.inl ⟨_,_,rfl,run_takeDeferred hK,?_⟩⟩;exact ⟨_,results_none rfl _ _ _,rfl,hc.own (grownBy_putObj' W D _) (fun r e=>by cases e;exact ⟨_,hK,rfl⟩),hK0.trans (hB.taken _ hD hK rfl).drop⟩
 case stop=>
  rintro D c pre W _ _ h _;exact h.elim
end Go.Proofs.YtbhiklnljiehiaaGreat
namespace Go.Proofs.YtbhiklnljiehiaaGreat
open Go.RowKit
def pQ (B:Nat) (t:TypeId) (w:World) (n:Nat) (xs:List Value) (e:Ending) (w':World):Prop:=
 ∃v,e= .returned v∧w'.ownsRow B t 1 v n xs∧Below B w w'
set_option maxHeartbeats 400000 in
theorem ji (A:Option Addr) (n c:Nat) (l:List UInt8) (w:World) (h:Sl w w.heap.size A n c (bO l)) (hsm:n≤1000000000):
 Calls Tryz.prog 103 #[.slice A n c] w (pQ w.heap.size 5 w n (bO l)):=by
 have hnil:=fun (W:World)=>Lib.run_eql_slice_nil (P:=Tryz.prog) W 31 5 A n c 0 0 und29
 obtain ⟨i0,hi,hz0,hz1,hz2⟩:=info_parts qK;have hs1:=h.alloc (aN) (.cells #[] 5);rcases A with _|ad
 ·obtain rfl:n=0:=by
   rcases Nat.eq_zero_or_pos n with h0|h0
   ·exact h0
   ·obtain ⟨_,e,_⟩:=h.at_ h0;cases e
  have hl:bO l= []:=List.eq_nil_of_length_eq_zero h.len;go_enter Tryz.func103,Tryz.ntmps103;go_wp2;go_ret;exact ⟨_,rfl,by rw[hl];exact World.ownsRow_nil _ _ _ _,Below.refl _ _⟩
 ·go_enter Tryz.func103,Tryz.ntmps103;go_wp2_with (at_builtin;refine jS _ rfl _ _ 31 rfl w.heap.size 5 i0 (.int .u8 0) 1 und29 hi hz0 hz1 hz2 rfl (.slice (some ⟨w.heap.size,0,none⟩) 0 0) 0 [] rfl ?c0 w.heap.size (some ad) n c (bO l) rfl hs1 (Du l) ?c3 ?c4 ?c5 ?_)
  case c0=>exact World.ownsRow_lit w #[] 0 (aN) (by unfold maxLen;omega) rfl
  case c3=>unfold maxLen;omega
  case c4=>omega
  case c5=>simp
  intro v' w1 hown' hgrow _;go_wp2;go_ret;exact ⟨_,rfl,by simpa using hown',((Below.refl _ w).alloc (aN) _).grown hgrow (by simp) (by simp[Value.ownBlock])⟩
theorem Ce (B g:Nat) (l:List Bool) (w:World) (h:nR w B g l) (hsm:l.length<1000000000):
 Calls Tryz.prog 124 #[.pointer (some ⟨g,0,none⟩)] w (pQ w.heap.size 5 w (pack l).length (bO (pack l))):=by
 obtain ⟨hB,v,hg,hv⟩:=h;obtain ⟨A,c,rfl,hs,_⟩:=bq hv;have hl:(pack l).length≤1000000000:=by have e:=pN l;unfold bJ at e;omega
 generalize pack l=ps at*;have hc0:=hg.cell 0;simp at hc0;go_enter Tryz.func124,Tryz.ntmps124;have hcl:=ji A ps.length c ps w hs hl;have HC:=ah hcl;clear hcl hl hsm;go_wp2_with (go_at_call 103;refine HC.out.mono ?_;rintro e w' ⟨v,rfl,hv',hb'⟩);go_ret;exact ⟨_,rfl,hv',hb'⟩
theorem Fq (l:List Bool) (k:Nat) (h:l.length+k=8*bJ l.length):pack (l++List.replicate k false)=pack l:=by
 have e:∀j,kr (l++List.replicate k false) j=kr l j:=by
  intro j;unfold kr
  congr 1
  rcases Nat.lt_or_ge j l.length with hj|hj
  ·simp[List.getD_eq_getElem?_getD,List.getElem?_append_left hj]
  ·simp only[List.getD_eq_getElem?_getD,List.getElem?_append_right hj,List.getElem?_eq_none hj];rcases Nat.lt_or_ge (j-l.length) k with hk|hk
   ·simp[hk]
   ·simp[List.getElem?_eq_none (show (List.replicate k false).length≤j-l.length by simpa using hk)]
 have hn:bJ (l++List.replicate k false).length=bJ l.length:=by simp[bJ] at h ⊢;omega
 unfold pack fV;rw[hn];simp only[e]
theorem IG (B g:Nat) (l:List Bool) (w:World) (h:nR w B g l) (hsm:l.length<1000000000):
 Calls Tryz.prog 172 #[.pointer (some ⟨g,0,none⟩)] w fun e w'=>e= .returned (.int .i64 0)∧nR w' B g (l++List.replicate (8*bJ l.length-l.length) false)∧Kept (Mw B g) w w':=by
 obtain ⟨hB,v,hg,hv⟩:=h;have hc0:=hg.cell 1;have hf0:=hg.frozen 1;simp at hc0;have hp:=Fq l (8*bJ l.length-l.length) (by simp[bJ];omega);have hL:(l++List.replicate (8*bJ l.length-l.length) false).length=(l.length+7)/8*8:=by simp[bJ];omega
 have HP:=ah hp;have HL:=ah hL;clear hp hL;generalize hn:l.length=n at*;have HN:=ah hn;clear hn;go_enter Tryz.func172,Tryz.ntmps172;go_wp2;go_ret;refine ⟨rfl,⟨hB,v,?_,?_⟩,(Kept.refl _ w).setCell (p:=⟨g,1,none⟩) (fun _ _=>⟨hB,.inl rfl⟩) _⟩
 ·have:=hg.av 1 (.int .i64 (((n:Int)+7)/8*8));rw[HL.out];simpa using this
 ·rw[HP.out];exact hv.kept (aO w g 1 _) (.inr (aJ hv hg (by decide)))
set_option maxHeartbeats 400000 in
theorem N7 (v wd:Nat) (w:World) (h64:wd≤64) (hv:v<2 ^ wd) (_ahi:v<18446744073709551616):
 Calls Tryz.prog 166 #[.agg #[.int .u64 v,.int .i64 wd]] w fun e w'=>e= .returned (.int .i64 0)∧w.alloc (.cells #[.int .u64 v,.int .i64 wd] 206)=w':=by
 have h0:(v:Int)/2 ^ wd=0:=by
  have:((v/2 ^ wd:Nat):Int)=0:=by rw[Nat.div_eq_of_lt hv];rfl
  push_cast at this
  exact this
 by_cases hw:wd<64
 ·go_enter Tryz.func166,Tryz.ntmps166;go_wp2;go_ret;exact ⟨rfl,rfl⟩
 ·go_enter Tryz.func166,Tryz.ntmps166;go_wp2;go_ret;exact ⟨rfl,rfl⟩
def bK:List (Nat × Nat)→List Value
 | []=> []
 |(v,n)::l=> .int .u64 v:: .int .i64 n::bK l
theorem pR (l:List (Nat × Nat)) (i v n:Nat) (h:l[i]? =some (v,n)):(bK l)[i*2]? =some (.int .u64 v)∧(bK l)[i*2+1]? =some (.int .i64 n):=by
 induction l generalizing i with
 |nil=>simp at h
 |cons x l ih=>
  obtain ⟨v',n'⟩:=x;cases i with
  |zero=>simp at h;simp[bK,h]
  |succ i=>
   have:=ih i (by simpa using h);rw[show (i+1)*2=i*2+1+1 by omega];simpa[bK] using this
def aH (l:List (Nat × Nat)):List Bool:=l.flatMap fun x=>bitsOf x.1 x.2
theorem yC (l:List (Nat × Nat)) (x:Nat × Nat):aH (l++ [x])=aH l++bitsOf x.1 x.2:=by simp[aH]
theorem vg (l:List (Nat × Nat)) (h:∀x∈l,x.2≤64):(aH l).length≤64*l.length:=by
 induction l with
 |nil=>simp[aH]
 |cons x l ih=>
  have h1:=h x (by simp);have h2:=ih (fun y hy=>h y (by simp[hy]));unfold aH at h2 ⊢;rw[List.flatMap_cons,List.length_append,List.length_cons,AZ];omega
theorem nR.alloc {w:World} {B g:Nat} {l:List Bool} (h:nR w B g l) (o:Obj):nR (w.alloc o) B g l:=by
 obtain ⟨hB,v,hg,hv⟩:=h;exact ⟨hB,v,hg.alloc _,hv.alloc _⟩
theorem nR.Ze {w w':World} {B g:Nat} {l:List Bool} (h:nR w B g l) (hk:Kept (fun _ _=>False) w w'):nR w' B g l:=by
 obtain ⟨hB,v,hg,hv⟩:=h;refine ⟨hB,v,hg.kept hk (fun h=>h),hv.kept (row:=none) ⟨hk.os,hk.tape,hk.output,hk.size,fun k hlt _=> ?_⟩ ?_⟩
 ·rw[Array.getElem?_eq_getElem hlt];exact hk.same k _ (Array.getElem?_eq_getElem hlt) (fun h=>h)
 ·rcases hb:v.ownBlock with _|k
  ·exact .inl rfl
  ·exact .inr (by simp)
set_option maxHeartbeats 1000000 in
theorem jb (B g b:Nat) (l:List Bool) (fs:List (Nat × Nat)) (w:World) (h:nR w B g l) (hsm:l.length<1000000) (hk:fs.length<1000)
 (hb:au w b 206 (bK fs).toArray) (hok:∀x∈fs,x.2≤64∧x.1<2 ^ x.2∧x.1<18446744073709551616):
 Calls Tryz.prog 122 #[.pointer (some ⟨g,0,none⟩),.slice (some ⟨b,0,none⟩) fs.length fs.length] w fun e w'=>e= .returned (.int .i64 0)∧nR w' B g (l++aH fs)∧Kept (Mw B g) w w':=by
 have hbg:b≠g:=by
  rintro rfl;obtain ⟨_,v,hg,_⟩:=h;unfold au at hg hb;rw[hg] at hb;injection hb with hb
  injection hb with _ h2
  exact absurd h2 (by decide)
 have nb:¬Mw B g b (.cells (bK fs).toArray 206 (0,0)):=by
  rintro ⟨_,e|⟨cs,fr,e⟩⟩
  ·exact hbg e
  ·cases e
 have Cg:=ah hok;clear hok;obtain ⟨N,hN⟩:∃N,N=fs.length:=⟨_,rfl⟩
 rw[←hN] at hk ⊢;have HN:=ah hN;clear hN;go_enter Tryz.func122,Tryz.ntmps122;go_wp2
 go_loopw [14] (fun i wr=>∃k:Nat,k≤N∧i= .int .i64 k∧Kept (fun _ _=>False) w wr) (fun i _=>N-(intOf i).toNat)
 case atStart=>exact ⟨0,Nat.zero_le _,rfl,Kept.refl _ _⟩
 case round=>
  obtain ⟨k,hkN,rfl,Iw⟩:=hrel;have hb1:=hb.kept Iw (fun h=>h);by_cases hlt:k<N
  ·obtain ⟨⟨fv,fw⟩,hf⟩:∃f,fs[k]? =some f:=⟨_,List.getElem?_eq_getElem (by rw[←HN.out];exact hlt)⟩
   obtain ⟨f1,f2⟩:=pR fs k fv fw hf;obtain ⟨g1,g2,g3⟩:=Cg.out _ (List.mem_of_getElem? hf);have c1:=hb1.cell (k*2);have c2:=hb1.cell (k*2+1);simp only[List.getElem?_toArray,f1,f2] at c1 c2;dsimp only at c1 c2 g1 g2 g3;have HF:=ah hf;clear f1 f2 hf;go_wp2_with (go_at_call 166;refine (N7 fv fw _ g1 g2 g3).mono ?_;rintro e w' ⟨rfl,rfl⟩)
   go_roundw
   case rel=>exact ⟨k+1,by omega,by go_num,(Iw.alloc _).alloc _⟩
   case measure=>simp[intOf];omega
  ·go_wp2
   go_loopw [26] (fun i wr=>∃k:Nat,k≤N∧i= .int .i64 k∧nR wr B g (l++aH (fs.take k))∧Kept (Mw B g) w wr) (fun i _=>N-(intOf i).toNat)
   case atStart=>exact ⟨0,Nat.zero_le _,rfl,by simpa[aH] using h.Ze Iw,Iw.mono (fun _ _ h=>h.elim)⟩
   case round=>
    clear hb1 Iw hlt hkN;obtain ⟨k,hkN,rfl,Yt,Iw⟩:=hrel;have hb1:=hb.kept Iw nb;by_cases hlt:k<N
    ·obtain ⟨⟨fv,fw⟩,hf⟩:∃f,fs[k]? =some f:=⟨_,List.getElem?_eq_getElem (by rw[←HN.out];exact hlt)⟩
     obtain ⟨f1,f2⟩:=pR fs k fv fw hf;obtain ⟨g1,g2,g3⟩:=Cg.out _ (List.mem_of_getElem? hf);have c1:=hb1.cell (k*2);have c2:=hb1.cell (k*2+1);simp only[List.getElem?_toArray,f1,f2] at c1 c2;dsimp only at c1 c2 g1 g2 g3;have hl2:(l++aH (fs.take k)).length<100000000:=by
      have:=vg (fs.take k) (fun x hx=>(Cg.out x (List.mem_of_mem_take hx)).1);have h3:(fs.take k).length≤k:=List.length_take_le _ _;rw[List.length_append];omega
     have hts:aH (fs.take (k+1))=aH (fs.take k)++bitsOf fv fw:=by
      rw[List.take_add_one,hf];exact yC _ _
     have HF:=ah hf;have HT:=ah hts;have HL2:=ah hl2;clear f1 f2 hf hts hl2;have hput:=fun W hW=>Rz B g fv fw (l++aH (fs.take k)) W g3 g1 hW HL2.out
     have lT:=ah hput;clear hput;go_wp2_with (go_at_call 167;refine (lT.out _ (Yt.alloc _)).mono ?_;rintro e w' ⟨rfl,hw',hk'⟩)
     go_roundw
     case rel=>exact ⟨k+1,by omega,by go_num,by rw[HT.out,←List.append_assoc];exact hw',(Iw.alloc _).trans hk'⟩
     case measure=>simp[intOf];omega
    ·have e:fs.take k=fs:=List.take_of_length_le (by rw[←HN.out];omega);rw[e] at Yt;go_wp2;go_ret;exact ⟨rfl,Yt,Iw⟩
end Go.Proofs.YtbhiklnljiehiaaGreat
namespace Go.Proofs.YtbhiklnljiehiaaGreat
open Go.RowKit
def aj (ps:List (List UInt8)):Nat:=(ps.map List.length).sum
set_option maxRecDepth 3000 in
set_option maxHeartbeats 400000 in
theorem N8 (n:Nat) (w:World) (hsm:n≤1000000000):Calls Tryz.prog 204 #[.slice none 0 0,.int .i64 n] w (pQ w.heap.size 5 w 0 []):=by
 obtain ⟨i0,hi,hz0,hz1,hz2⟩:=info_parts qK;rcases Nat.eq_zero_or_pos n with rfl|hpos
 ·go_enter Tryz.func204,Tryz.ntmps204;go_wp2;go_ret;exact ⟨_,rfl,World.ownsRow_nil _ _ _ _,Below.refl _ _⟩
 ·have hr:=Lib.run_append_nil_zeros (P:=Tryz.prog) w 31 3 31 5 i0 (.int .u8 0) .i64 .i64 und29 (by kernel_rfl) hi hz0 n hpos (by omega) (by omega) (by rw[hz2];omega);have hcap:=grownCap_ge w n 0 5;have hmx:=grownCap_le_maxLen w n 0 5 (by unfold maxLen;omega);unfold maxLen at hmx;generalize grownCap w n 0 5=cap at*;have HR:=ah hr;clear hr;go_enter Tryz.func204,Tryz.ntmps204;go_wp2_with (at_builtin;refine Lib.wpList_append_run _ rfl _ _ 31 3 rfl (.slice none 0 0) (.int .i64 n) rfl rfl _ _ HR.out ?_);go_ret;refine ⟨_,rfl,⟨rfl,.inr ⟨w.heap.size,cap,_,rfl,aN,heap_alloc_new w _,Nat.zero_le _,by unfold maxLen;omega,?_,rfl⟩⟩,((Below.refl _ w).alloc (aN) _).drew⟩;rw[Array.size_append,size_zeroCells,size_zeroCells];simp;omega
theorem yD:aj []=0:=rfl
theorem fH (ps:List (List UInt8)) (k:Nat) (h:k<ps.length):aj (ps.take (k+1))=aj (ps.take k)+(ps[k]?.getD []).length:=by
 unfold aj;rw[List.take_add_one,List.getElem?_eq_getElem h,List.map_append,List.sum_append];rfl
theorem Dy (ps:List (List UInt8)) (k:Nat) (h:k<ps.length):(ps.take (k+1)).flatten=(ps.take k).flatten++ps[k]?.getD []:=by
 rw[List.take_add_one,List.getElem?_eq_getElem h,List.flatten_append];simp
theorem lu (ps:List (List UInt8)):ps.flatten.length=aj ps:=by simp[aj,List.length_flatten]
theorem bV (ps:List (List UInt8)) (k:Nat):aj (ps.take k)≤aj ps:=by
 conv=>rhs;rw[←List.take_append_drop k ps]
 unfold aj;rw[List.map_append,List.sum_append];omega
set_option maxRecDepth 3000 in
set_option maxHeartbeats 1000000 in
theorem yE (A:Option Addr) (n c:Nat) (vs:List Value) (ps:List (List UInt8)) (w:World) (h:iO w w.heap.size A n c vs ps) (hsm:aj ps≤100000000):
 Calls Tryz.prog 173 #[.slice A n c] w (pQ w.heap.size 5 w (aj ps) (bO ps.flatten)):=by
 obtain ⟨i0,hi,hz0,hz1,hz2⟩:=info_parts qK;have hn63:n≤9223372036854775807:=by have:=h.sl.cap;have:=h.sl.mx;omega
 have HL:=ah h.len;have pG:=ah hsm;clear hsm;go_enter Tryz.func173,Tryz.ntmps173;go_wp2
 go_loop [3,11] (fun t i=>∃k:Nat,k≤n∧i= .int .i64 k∧t= .int .i64 (aj (ps.take k))) (fun _ i=>n-(intOf i).toNat)
 case atStart=>exact ⟨0,Nat.zero_le _,rfl,rfl⟩
 case round=>
  obtain ⟨k,hk,rfl,rfl⟩:=hrel;by_cases hlt:k<n
  ·obtain ⟨ad,Ai,ci,rfl,hb,hc,hsl⟩:=h.get hlt;have hs1:=fH ps k (by rw[HL.out];exact hlt);have hle1:=Nat.le_trans (bV ps (k+1)) pG.out;have hle0:=Nat.le_trans (bV ps k) pG.out;generalize ps[k]?.getD []=p at*;generalize aj (List.take k ps)=S at*;have hle2:S+p.length≤100000000:=by omega
   have HS:=ah hs1;clear hs1 hle1;go_wp2
   go_round
   case rel=>exact ⟨k+1,by omega,by go_num,by rw[HS.out];go_num⟩
   case measure=>simp[intOf];omega
  ·have e:ps.take k=ps:=List.take_of_length_le (by rw[HL.out];omega);rw[e];have hle:=pG.out;generalize hS:aj ps=S at*;have HS:=ah hS;clear hS;go_wp2_with (go_at_call 204;refine (N8 S w (by omega)).mono ?_;rintro e w1 ⟨v1,rfl,hv1,hb1⟩);clear hk hlt e
   go_loopw [6,27] (fun v i wr=>∃k:Nat,k≤n∧i= .int .i64 k∧wr.ownsRow w.heap.size 5 1 v (aj (ps.take k)) (bO (ps.take k).flatten)∧Below w.heap.size w wr) (fun _ i _=>n-(intOf i).toNat)
   case atStart=>exact ⟨0,Nat.zero_le _,rfl,by simpa[aj,bO] using hv1,hb1⟩
   case round=>
    clear hv1 hb1;obtain ⟨k,hk,rfl,hown,hbw⟩:=hrel;by_cases hlt:k<n
    ·obtain ⟨ad,Ai,ci,rfl,hb,hc,hsl⟩:=(h.below hbw).get hlt;have hs1:=fH ps k (by rw[HL.out];exact hlt);have hf1:=Dy ps k (by rw[HL.out];exact hlt);have hle1:=bV ps (k+1);rw[HS.out] at hle1;generalize ps[k]?.getD []=p at*;generalize aj (List.take k ps)=S1 at*;generalize (List.take k ps).flatten=F1 at*;have hle2:S1+p.length≤100000000:=by omega
     have rU:=ah hs1;have RA:=ah hf1;clear hs1 hle1 hf1;go_wp2_with (at_builtin;refine jS _ rfl _ _ 31 rfl w.heap.size 5 i0 (.int .u8 0) 1 und29 hi hz0 hz1 hz2 rfl _ S1 (bO F1) rfl hown w.heap.size Ai p.length ci (bO p) rfl hsl (Du p) ?c3 ?c4 ?c5 ?_)
     case c3=>unfold maxLen;omega
     case c4=>omega
     case c5=>exact hbw.size
     intro v' w2 hown' hgrow _;go_wp2
     go_roundw
     case rel=>exact ⟨k+1,by omega,by go_num,by rw[rU.out,RA.out];simpa[bO] using hown',hbw.grown hgrow hbw.size (fun j hj=>(hown.lt j hj).1)⟩
     case measure=>simp[intOf];omega
    ·have e:ps.take k=ps:=List.take_of_length_le (by rw[HL.out];omega);rw[e,HS.out] at hown;go_wp2;go_ret;exact ⟨_,rfl,hown,hbw⟩
end Go.Proofs.YtbhiklnljiehiaaGreat
