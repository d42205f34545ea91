/- The bit writer: add appends one bit. The. -/
import Derived.Test.YtbhiklnljiehiaaGreatM3aa
import Derived.BigRegion
import Derived.Laws.BitsAllLaws
import Derived.RangeFuncBound
import Derived.RangeFuncCalls
import Derived.RangeFuncLeaves
import Derived.Shelf.Abstract
import Derived.Shelf.RegionOpen
import Derived.OwnWalkIn
import Derived.TacticsInMore
import Derived.LoopNIn
import Derived.LoopIn
import Derived.Lib.AppendZeros
set_option maxHeartbeats 2000000
set_option maxRecDepth 100000
namespace Go.Proofs.YtbhiklnljiehiaaGreat
open RowKit Shelf Tryz
attribute [local go_sem] Oper.semAt_some
theorem xg:(prog.info? 5).map (fun i=>(i.zero,i.size,i.bytes))=some (some (.int .u8 0),1,1):=by kernel_rfl
theorem und29:prog.underlying 31=some (.slice 5):=by kernel_rfl
def tV (w:World) (B g:Nat) (l:List Bool):Prop:=
 B<=g/\∃v,av w g 202 #[v,.int .i64 (l.length:Nat)]/\w.ownsRow B 5 1 v (pack l).length (dz (pack l))
def Mw (B g:Nat) (k:Nat) (o:Obj):Prop:=B<=k/\(k=g\/Qw o 5)
theorem Mw.TY {B g k:Nat} {a w:World} {o o':Obj} (h:Kept (Mw B g) a w) (ho:a.heap[k]? =some o) (hw:w.heap[k]? =some o') (hr:Qw o' 5) (hB:B<=k):Mw B g k o:=by
 by_cases hm:Mw B g k o
 ·exact hm
 ·have:=h.same k o ho hm;rw[hw] at this;cases this;exact ⟨hB,.inr hr⟩
theorem T6 (l:List UInt8) (b:UInt8):dz l++ [bv b]=dz (l++ [b]):=by simp[dz]
theorem Xx (l:List UInt8) (i:Nat) (b:UInt8):(dz l).set i (bv b)=dz (l.set i b):=by simp[dz,List.map_set]
theorem aa9 (b:Bool) (n:Nat) (h:n%8=0):Value.int .u8 (bits .or .u8 0 ((b.toNat:Int)*2 ^ (7-n%8)%256))=bv (UInt8.ofNat (b.toNat*2 ^ 7)):=by
 rw[h];cases b<;>simp[bv]<;>rfl
theorem ae0 (l:List Bool) (b:Bool) (_h:l.length%8≠0):
 Value.int .u8 (bits .or .u8 ((UInt8.ofNat (iU l (l.length/8))).toNat:Int) ((b.toNat:Int)*2 ^ (7-l.length%8)%256))=bv (UInt8.ofNat (iU l (l.length/8)|||b.toNat*2 ^ (7-l.length%8))):=by
 have hlt:=Ex l (l.length/8);have hb:b.toNat*2 ^ (7-l.length%8)<256:=by
  have h1:b.toNat*2 ^ (7-l.length%8)<=1*2 ^ 7:=Nat.mul_le_mul (by cases b<;>simp) (Nat.pow_le_pow_right (by omega) (by omega));omega
 have e:(b.toNat:Int)*2 ^ (7-l.length%8)%256=((b.toNat*2 ^ (7-l.length%8):Nat):Int):=by
  rw[Int.emod_eq_of_lt]
  ·push_cast;rfl
  ·exact Int.mul_nonneg (by omega) (Int.le_of_lt (Int.pow_pos (by omega)))
  ·have:((b.toNat*2 ^ (7-l.length%8):Nat):Int)<256:=by omega
   push_cast at this
   exact this
 have e2:(UInt8.ofNat (iU l (l.length/8))).toNat=iU l (l.length/8):=by simp;omega
 rw[e,e2,u8_or_nat _ _ hlt hb,bv]
 congr 2
 have:iU l (l.length/8)|||b.toNat*2 ^ (7-l.length%8)<2 ^ 8:=Nat.or_lt_two_pow hlt hb
 rw[UInt8.toNat_ofNat',ID this]
theorem Xy (B g:Nat) (l:List Bool) (b:Bool) (w:World) (h:tV w B g l) (h0:l.length%8=0) (hsm:l.length<1000000000):
 Calls prog 203 #[.pointer (some g),.int .u8 b.toNat] w fun e w'=>e= .returned (.tuple #[])/\tV w' B g (l++ [b])/\Kept (Mw B g) w w':=by
 obtain ⟨hBg,v,hg,hv⟩:=h;have hc0:=hg.cell 0;have hc1:=hg.cell 1;have hf0:=hg.frozen 0;have hf1:=hg.frozen 1;simp at hc0 hc1;obtain ⟨i0,hi,hz0,hz1,hz2⟩:=vz xg;have h8:((l.length:Int)%8==0)=true:=by simp;omega
 have hP:pack (l++ [b])=pack l++ [UInt8.ofNat (b.toNat*2 ^ 7)]:=Hf l b h0;have hL:(pack l).length=l.length/8:=by simp[bI];omega
 have HP:=ah hP;have HL:=ah hL;have H0:=ah h0;clear hP hL h0;generalize hps:pack l=ps at*;generalize hn:l.length=n at*;have Qy:=ah hps;have HN:=ah hn;clear hps hn;have hlen:ps.length<1000000000:=by have:=HL.out;omega
 have e1:((n:Int)/8).toNat=ps.length:=by have:=HL.out;omega
 have hlt:=hg.lt;go_enter func203,ntmps203;go_wp2_with (at_builtin;refine IA _ rfl _ _ 31 rfl B 5 i0 (.int .u8 0) 1 1 und29 hi hz0 hz1 hz2 rfl (by decide) _ _ _ rfl (hv.alloc _) ⟨w,0,none⟩ 1 1 [.int .u8 0] rfl rfl ?c1 ?c2 ?c3 ?c4 ?c5 ?_)
 case c1=>exact cell_one_new _ _ _
 case c2=>simp[Value.oneCell']
 case c3=>unfold maxLen;omega
 case c4=>omega
 case c5=>simp;omega
 intro v' w1 hown' hgrow _;have hg1:av w1 g 202 #[v,n]:=(hg.alloc _).grown hgrow (fun e=>aK hv hg (by decide) e.symm);have hk1:Kept (Mw B g) w w1:=((Kept.refl _ w).alloc _).grown hgrow (by
  intro k hk o ho;obtain ⟨o',ho',hr,hb⟩:=dR hv hk;rw[ho] at ho';cases ho';exact ⟨hb,.inr hr⟩)
 have hc0:=hg1.cell 0;have hc1:=hg1.cell 1;have hf0:=hg1.frozen 0;have hf1:=hg1.frozen 1;simp at hc0 hc1;obtain ⟨g',cap',rfl,hgl,oL⟩:=hown'.form (by omega);have hne:g≠g':=by
  intro e;subst e;exact aK hown' hg1 (by decide) rfl
 have hg2:=hg1.ay 0 (.slice (some ⟨g',0,none⟩) (ps.length+1) cap');have hk2:=hk1.setCell (p:=⟨g,0,none⟩) (fun _ _=>⟨hBg,.inl rfl⟩) (.slice (some ⟨g',0,none⟩) (ps.length+1) cap');have hown2:(w1.setCell g (.slice (some ⟨g',0,none⟩) (ps.length+1) cap')).ownsRow B 5 1 (.slice (some ⟨g',0,none⟩) (ps.length+1) cap') (ps.length+1) (dz ps++ [Value.int IntKind.u8 0]):=
  hown'.kept (grownBy_setCell' w1 g _) (.inr (by simp[Value.ownBlock];omega))
 simp at hg2;have hsz2:w1.heap.size=(w1.setCell g (.slice (some ⟨g',0,none⟩) (ps.length+1) cap')).heap.size:=by simp[World.setCell]
 go_wp2;generalize w1.setCell g (.slice (some ⟨g',0,none⟩) (ps.length+1) cap')=w2 at*;clear hf0 hf1 hc0 hc1 hg1 hown' hk1 hgrow hsz2;have hc0:=hg2.cell 0;have hc1:=hg2.cell 1;have hf0:=hg2.frozen 0;have hf1:=hg2.frozen 1;simp at hc0 hc1;have hcb:=hown2.cellAt ps.length (by omega);have hfb:=hown2.frozenAt ps.length;simp at hcb
 go_region
 have ho:=aa9 b n H0.out;have HO:=ah ho;clear ho;generalize hval:Value.int .u8 (bits .or .u8 0 ((b.toNat:Int)*2 ^ (7-n%8)%256))=val at*;go_wp2
 go_end0
 refine ⟨rfl,⟨hBg,.slice (some ⟨g',0,none⟩) (ps.length+1) cap',?_,?_⟩,?_⟩
 ·have h3:=(hg2.far (p:=⟨g',ps.length,none⟩) hne val).ay 1 (.int .i64 ((n:Int)+1));simpa[HN.out] using h3.drew
 ·have h3:=(hown2.stored ps.length val).1;have e:(dz ps++ [Value.int .u8 0]).set ps.length val=dz ps++ [val]:=by simp
  rw[HP.out,<-T6,<-HO.out];rw[e] at h3;have h4:=h3.kept (aR _ g 1 (.int .i64 ((n:Int)+1))) (.inr (by simp[Value.ownBlock];omega));simpa using h4.drew'
 ·exact ((hk2.setCell (p:=⟨g',ps.length,none⟩) (fun o ho=>by
   obtain ⟨o',ho',hr,_⟩:=dR hown2 (k:=g') rfl;exact Mw.TY hk2 ho ho' hr hgl) val).setCell (p:=⟨g,1,none⟩) (fun _ _=>⟨hBg,.inl rfl⟩) _).drew
theorem aba (B g:Nat) (l:List Bool) (b:Bool) (w:World) (h:tV w B g l) (h0:l.length%8≠0) (hsm:l.length<1000000000):
 Calls prog 203 #[.pointer (some g),.int .u8 b.toNat] w fun e w'=>e= .returned (.tuple #[])/\tV w' B g (l++ [b])/\Kept (Mw B g) w w':=by
 obtain ⟨hBg,v,hg,hv⟩:=h;have hc0:=hg.cell 0;have hc1:=hg.cell 1;have hf0:=hg.frozen 0;have hf1:=hg.frozen 1;simp at hc0 hc1;have h8:((l.length:Int)%8==0)=false:=by simp;omega
 have hP:pack (l++ [b])=(pack l).set (l.length/8) (UInt8.ofNat (iU l (l.length/8)|||b.toNat*2 ^ (7-l.length%8))):=J3 l b h0;have hL:(pack l).length=l.length/8+1:=by simp[bI];omega
 have hO:=ae0 l b h0;have hold:(pack l)[l.length/8]? =some (UInt8.ofNat (iU l (l.length/8))):=pZ l _ (by simp[bI];omega);have hL':(pack (l++ [b])).length=(pack l).length:=by rw[hP];simp
 have HP:=ah hP;have HL:=ah hL;have HO:=ah hO;have HL':=ah hL';clear hP hL h0 hO hL';obtain ⟨g',cap',rfl,hgl,oL⟩:=hv.form (by rw[HL.out];omega);have hne:g≠g':=by
  intro e;subst e;exact aK hv hg (by decide) rfl
 have hcb:=hv.cellAt (l.length/8) (by rw[HL.out];omega);have hfb:=hv.frozenAt (l.length/8);have T7:w.cell? ⟨g',l.length/8,none⟩=some (.int .u8 ((UInt8.ofNat (iU l (l.length/8))).toNat:Int)):=by
  rw[hcb];simp only[dz,oW,hold];rfl
 generalize hps:pack l=ps at*;generalize hq:(UInt8.ofNat (iU l (l.length/8))).toNat=q at*;clear hcb hq hold;generalize hn:l.length=n at*;have Qy:=ah hps;have HN:=ah hn;clear hps hn;have hlen:ps.length<1000000000:=by have:=HL.out;omega
 have e1:((n:Int)/8).toNat=n/8:=by omega
 have e2:(n:Int)/8<ps.length:=by have:=HL.out;omega
 have hlt:=hg.lt;go_enter func203,ntmps203;go_wp2
 go_region
 generalize hval:Value.int .u8 (bits .or .u8 (q:Int) ((b.toNat:Int)*2 ^ (7-n%8)%256))=val at*;clear hval;go_wp2
 go_end0
 refine ⟨rfl,⟨hBg,.slice (some ⟨g',0,none⟩) ps.length cap',?_,?_⟩,?_⟩
 ·have h3:=(hg.far (p:=⟨g',n/8,none⟩) hne val).ay 1 (.int .i64 ((n:Int)+1));simpa[HN.out] using h3.drew
 ·have h3:=(hv.stored (n/8) val).1;rw[HL'.out,HP.out,<-Xx,<-HO.out];have h4:=h3.kept (aR _ g 1 (.int .i64 ((n:Int)+1))) (.inr (by simp[Value.ownBlock];omega));simpa using h4.drew'
 ·exact (((Kept.refl _ w).setCell (p:=⟨g',n/8,none⟩) (fun o ho=>by
   obtain ⟨o',ho',hr,_⟩:=dR hv (k:=g') rfl;exact Mw.TY (Kept.refl _ w) ho ho' hr hgl) val).setCell (p:=⟨g,1,none⟩) (fun _ _=>⟨hBg,.inl rfl⟩) _).drew
theorem Xz (B g:Nat) (l:List Bool) (b:Bool) (w:World) (h:tV w B g l) (hsm:l.length<1000000000):
 Calls prog 203 #[.pointer (some g),.int .u8 b.toNat] w fun e w'=>e= .returned (.tuple #[])/\tV w' B g (l++ [b])/\Kept (Mw B g) w w':=by
 by_cases h0:l.length%8=0
 ·exact Xy B g l b w h h0 hsm
 ·exact aba B g l b w h h0 hsm
theorem LY (v n k:Nat) (h:k<n):(bitsOf v n).take k++ [decide (v/2 ^ (n-1-k)%2=1)]=(bitsOf v n).take (k+1):=by
 rw[pX]
 congr 1
 simp[bitsOf,h]
theorem XA (v k:Nat) (h:v<18446744073709551616):bits BinOp.and IntKind.u64 ((v:Int)/2 ^ k) 1%256=((decide (v/2 ^ k%2=1)).toNat:Int):=by
 have e:(v:Int)/2 ^ k=((v/2 ^ k:Nat):Int):=by push_cast;rfl
 have hle:v/2 ^ k<=v:=Nat.div_le_self _ _;rw[e];have h1:=u64_and_nat (v/2 ^ k) 1 (by omega) (by omega);have h1':bits BinOp.and IntKind.u64 ((v/2 ^ k:Nat):Int) 1=((v/2 ^ k&&& 1:Nat):Int):=h1;rw[h1',Nat.and_one_is_mod];rcases Nat.mod_two_eq_zero_or_one (v/2 ^ k) with h2|h2<;>simp[h2]
theorem nZ {n:Nat} {P:Program} {c:Code} {Q:Exit->Act->World->Prop} {a:Act} {w:World} (h:c.wpIn Fence.wide n P (Exit.noGoto Q) a w):(Code.scope c).wpIn Fence.wide n P Q a w:=
 xW.2 (wp_scope_straight (xW.1 h))
theorem LZ (n:Nat) (hn:1<=n) (Bw Bv v width:Nat) (hv64:v<18446744073709551616) (hwd:width<=64) (M:Nat->Obj->Prop) (w:World)
 (hw:av w Bw 3 #[width]) (hv:av w Bv 204 #[.int .u64 v]) (hMw:¬M Bw (.cells #[width] 3 (0,0))) (XB:¬M Bv (.cells #[.int .u64 v] 204 (0,0))):
 SeqStopsK Fence.wide n prog 220 #[.pointer (some Bw),.pointer (some Bv)] (fun b:Bool=> #[Value.int .u8 b.toNat]) (Kept M)
  (fun xs=>xs=bitsOf v width) (fun _=>True) width w:=fun l J Jx W hW _ _ hY h0=>by
 have hw':=hw.below hW hw.lt;have hv':=hv.below hW hv.lt;refine Ev func220 rfl trivial ?_ rfl;simp only[ntmps220,vP,jh,gQ,Nat.reduceAdd,Nat.reduceSub,zA,zz,zF,zB,pY,qJ];have hcw:=hw'.cell 0;simp at hcw;refine nZ ?_
 gi_wp2
 refine wpIn_label ?_
 gi_wp2
 gi_loopw [4] (fun i wr=>∃k:Nat,k<=width/\i= .int .i64 ((width:Int)-1-k)/\J ((bitsOf v width).take k) wr/\Kept M W wr)
  (fun i _=>(intOf i+1).toNat)
 case atStart=>exact ⟨0,eH _,by simp,by simpa using h0,Kept.refl _ _⟩
 case round=>
  obtain ⟨k,hk,rfl,hJs,hnx⟩:=hrel;have ZR:=hv'.kept hnx XB;have hcv:=ZR.cell 0;simp at hcv;by_cases hlt:k<width
  ·obtain ⟨x,hx⟩:∃x:Bool,x=decide (v/2 ^ (width-1-k)%2=1):=⟨_,rfl⟩
   have hbit:bits BinOp.and IntKind.u64 ((v:Int)/2 ^ (width-1-k)) 1%256=(x.toNat:Int):=by rw[hx];exact XA v _ hv64
   obtain ⟨fn,tmps,assign,body,hy,hR⟩:=hY _ x wr hJs (by simp;omega);have HX:=ah hx;clear hx
   gi_wp2
   refine hR.mono ?_;have hts:(bitsOf v width).take k++ [x]=(bitsOf v width).take (k+1):=by
    rw[HX.out];exact LY v width k hlt
   rintro e W3 (⟨rfl,hJ3,hk3⟩|⟨rfl,hJx3⟩)
   ·gi_wp2
    go_roundw
    case rel=>exact ⟨k+1,by omega,by go_num,by rw[<-hts];exact hJ3,hnx.trans hk3⟩
    case measure=>simp[intOf];omega
   ·gi_wp2
    rw[Eo]
    go_end0
    exact ⟨⟨_,rfl⟩,.inr ⟨_,trivial,hJx3⟩⟩
  ·obtain rfl:k=width:=by omega
   gi_wp2
   rw[Eo]
   go_end0
   exact ⟨⟨_,rfl⟩,.inl ⟨_,rfl,by rw[kI (by simp)] at hJs;exact hJs⟩⟩
theorem XC (n v width:Nat) (w:World):
 CallsIn Fence.wide n prog 202 #[.int .u64 v,width] w fun e w'=>e= .returned (.func (.func 220) #[] #[.pointer (some ⟨w+1,0,none⟩),.pointer (some w)])/\
  (w.alloc (.cells #[.int .u64 v] 204)).alloc (.cells #[width] 3)=w':=by
 refine Ev func202 rfl trivial ?_ rfl;simp only[ntmps202,vP,jh,gQ,Nat.reduceAdd,Nat.reduceSub,zA,zz,zF,zB,pY,qJ]
 gi_wp2
 go_ret;exact ⟨rfl,rfl⟩
theorem tV.own {w w':World} {B g:Nat} {l:List Bool} (h:tV w B g l) {row:Option Nat} (hg:w.grownBy w' row) (hr:∀r,row=some r->∃o:Obj,w.heap[r]? =some o/\o.isCells=false):tV w' B g l:=by
 obtain ⟨hB,v,hb,hv⟩:=h;refine ⟨hB,v,hb.grown hg (fun e=> ?_),hv.kept hg ?_⟩
 ·obtain ⟨o,ho,hc⟩:=hr g e.symm;rw[show w.heap[g]? =_ from hb] at ho;cases ho;cases hc
 ·rcases hk:v.ownBlock with _|k
  ·exact .inl rfl
  ·refine .inr (fun e=> ?_);obtain ⟨o,ho,hc⟩:=hr k (by rw[<-e]);obtain ⟨o',ho',⟨cs,fr,rfl⟩,_⟩:=dR hv hk;rw[ho] at ho';cases ho';cases hc
theorem tV.Rt {w:World} {B g:Nat} {l:List Bool} (h:tV w B g l) {N:Nat}:∀k o,w.heap[k]? =some o->o.isCells=false->N<=k->¬Mw B g k o:=by
 obtain ⟨hB,v,hb,hv⟩:=h;rintro k o ho hc _ ⟨_,rfl|⟨cs,fr,rfl⟩⟩
 ·rw[show w.heap[k]? =_ from hb] at ho;cases ho;cases hc
 ·cases hc
theorem XD (B g v width:Nat) (l:List Bool) (w:World) (hv64:v<18446744073709551616) (hwd:width<=64) (h:tV w B g l) (hsm:l.length<100000000):
 Calls prog 167 #[.pointer (some g),.int .u64 v,width] w fun e w'=>e= .returned (.tuple #[])/\tV w' B g (l++bitsOf v width)/\Kept (Mw B g) w w':=by
 refine (xI (n:=5)).1 ?_;have hBg:=h.1;have ae2:g<w:=by obtain ⟨_,v,hb,_⟩:=h;exact hb.lt
 refine Em func167 rfl trivial ?_ rfl;simp only[ntmps167,vP,jh,gQ,Nat.reduceAdd,Nat.reduceSub,zA,zz,zF,zB,pY,qJ]
 gi_wp2_with (refine ⟨trivial,?_⟩;gi_at_call 202;refine (XC _ v width _).mono ?_;rintro e w' ⟨rfl,rfl⟩)
 have aj0:av (((w.alloc (.cells #[.pointer (some g)] 254)).alloc (.cells #[.int .u64 v] 204)).alloc (.cells #[width] 3)) w 254 #[.pointer (some g)]:=((av.new w _ _).alloc _).alloc _;have hbv:av (((w.alloc (.cells #[.pointer (some g)] 254)).alloc (.cells #[.int .u64 v] 204)).alloc (.cells #[width] 3)) (w+1) 204 #[.int .u64 v]:=by
  have:=(av.new (w.alloc (.cells #[.pointer (some g)] 254)) 204 #[.int .u64 v]).alloc (.cells #[width] 3);simpa using this
 have hbw:av (((w.alloc (.cells #[.pointer (some g)] 254)).alloc (.cells #[.int .u64 v] 204)).alloc (.cells #[width] 3)) (w.heap.size+1+1) 3 #[width]:=by
  have:=av.new ((w.alloc (.cells #[.pointer (some g)] 254)).alloc (.cells #[.int .u64 v] 204)) 3 #[width];simpa using this
 have hW0:tV (((w.alloc (.cells #[.pointer (some g)] 254)).alloc (.cells #[.int .u64 v] 204)).alloc (.cells #[width] 3)) B g l:=by
  obtain ⟨_,u,hb,hv⟩:=h;exact ⟨hBg,u,((hb.alloc _).alloc _).alloc _,((hv.alloc _).alloc _).alloc _⟩
 have hK0:Kept (Mw B g) w (((w.alloc (.cells #[.pointer (some g)] 254)).alloc (.cells #[.int .u64 v] 204)).alloc (.cells #[width] 3)):=(((Kept.refl _ w).alloc _).alloc _).alloc _;have hsz:w.heap.size<=(((w.alloc (.cells #[.pointer (some g)] 254)).alloc (.cells #[.int .u64 v] 204)).alloc (.cells #[width] 3)).heap.size:=by simp;omega
 generalize ((w.alloc (.cells #[.pointer (some g)] 254)).alloc (.cells #[.int .u64 v] 204)).alloc (.cells #[width] 3)=w1 at*;have nM:∀(k:Nat) (cs:Array Value) (t:TypeId),w<=k->t≠5->¬Mw B g k (.cells cs t (0,0)):=by
  rintro k cs t hk ht ⟨_,e|⟨cs',fr,e⟩⟩
  ·omega
  ·cases e;exact ht rfl
 have nB:∀(k:Nat) (cs:Array Value) (t:TypeId),w<=k->t≠5->¬MB (Mw B g) w1 k (.cells cs t (0,0)):=by
  rintro k cs t hk ht (e|⟨_,e⟩)
  ·exact nM k cs t hk ht e
  ·cases e
 refine wpIn_rangeFunc_ownG rfl (by omega) (gf:=220) (lb:= #[.pointer (some ⟨w.heap.size+1+1,0,none⟩),.pointer (some ⟨w+1,0,none⟩)]) rfl trivial (enters_of func220 (by kernel_rfl) rfl)
  (LZ _ (by omega) (w.heap.size+1+1) (w+1) v width hv64 hwd (MB (Mw B g) w1) w1 hbw hbv (nB _ _ _ (by omega) (by decide)) (nB _ _ _ (by omega) (by decide)))
  Kept.trans (MB.b w1) (bS _ _) (fun _=>rfl)
  (fun pre W=>tV W B g (l++pre)/\Kept (MB (Mw B g) w1) w1 W) (fun _ _ _=>False)
  (OwnFrom.and (Own.from (fun s A C row hs hg hr=>hs.own hg hr) _) zL) (fun _ _ _ _ _ hs _ _=>hs)
  ⟨by simpa using hW0,Kept.refl _ _⟩
  (fun x=> {tmps:= #[.pointer (some g),.int .u64 v,width,.pointer (some w),undef,undef,.int .u8 x.toNat,.int .u64 v,width,.func (.func 220) #[] #[.pointer (some ⟨w.heap.size+1+1,0,none⟩),.pointer (some ⟨w+1,0,none⟩)],.int .u8 x.toNat,undef,undef,undef,undef,undef],defers:= []}) ?assign ?body ?done ?stop
 case assign=>
  intro l x W K hK
  gi_wp2
  exact hK
 case body=>
  rintro lp pre x W ⟨hWt,Og⟩ hlen;have hbx:=(aj0.kept Og (nB _ _ _ (by omega) (by decide))).cell 0;simp at hbx
  gi_wp2_with (refine ⟨trivial,?_⟩;gi_at_call 203;refine (IE lp ((xI (n:=2)).2 (Xz B g (l++pre) x W hWt (by simp;omega)))).mono ?_;rintro e w' ⟨rfl,hw',hk'⟩)
  exact ⟨hk'.from (hWt.Rt),hk'.mb,by simpa using hw',Og.trans hk'.mb⟩
 case done=>
  rintro D ys W hD rfl ⟨hc,hB⟩ hK
  gi_wp2
  refine ⟨by simp,.inl ⟨_,_,rfl,Cx hK,?_⟩⟩;exact ⟨_,zJ rfl _ _ _,rfl,hc.own (nX W D _) (fun r e=>by cases e;exact ⟨_,hK,rfl⟩),hK0.trans (hB.taken _ hD hK rfl).drop⟩
 case stop=>
  rintro D c pre W _ _ h _;exact h.elim
def vV (B:Nat) (t:TypeId) (w:World) (n:Nat) (xs:List Value) (e:Ending) (w':World):Prop:=
 ∃v,e= .returned v/\w'.ownsRow B t 1 v n xs/\Below B w w'
theorem pO (A:Option Addr) (n c:Nat) (l:List UInt8) (w:World) (h:Sl w w A n c (dz l)) (hsm:n<=1000000000):
 Calls prog 103 #[.slice A n c] w (vV w 5 w n (dz l)):=by
 have hnil:=fun (W:World)=>Lib.run_eql_slice_nil (P:=prog) W 31 5 A n c 0 0 und29
 obtain ⟨i0,hi,hz0,hz1,hz2⟩:=vz xg;have hs1:=h.alloc (aL) (.cells #[] 5);rcases A with _|ad
 ·obtain rfl:n=0:=by
   rcases oV n with h0|h0
   ·exact h0
   ·obtain ⟨_,e,_⟩:=h.at_ h0;cases e
  have hl:dz l= []:=nV h.len;go_enter func103,ntmps103;go_wp2;go_ret;exact ⟨_,rfl,by rw[hl];exact jl _ _ _ _,bS _ _⟩
 ·go_enter func103,ntmps103;go_wp2_with (at_builtin;refine nG _ rfl _ _ 31 rfl w 5 i0 (.int .u8 0) 1 und29 hi hz0 hz1 hz2 rfl (.slice (some ⟨w,0,none⟩) 0 0) 0 [] rfl ?c0 w.heap.size (some ad) n c (dz l) rfl hs1 (J2 l) ?c3 ?c4 ?c5 ?_)
  case c0=>exact World.ownsRow_lit w #[] 0 (aL) (by unfold maxLen;omega) rfl
  case c3=>unfold maxLen;omega
  case c4=>omega
  case c5=>simp
  intro v' w1 hown' hgrow _;go_wp2;go_ret;exact ⟨_,rfl,by simpa using hown',((bS _ w).alloc (aL) _).grown hgrow (by simp) (by simp[Value.ownBlock])⟩
theorem IK (B g:Nat) (l:List Bool) (w:World) (h:tV w B g l) (hsm:l.length<1000000000):
 Calls prog 124 #[.pointer (some g)] w (vV w 5 w (pack l).length (dz (pack l))):=by
 obtain ⟨hB,v,hg,hv⟩:=h;obtain ⟨A,c,rfl,hs,_⟩:=aY hv;have hl:(pack l).length<=1000000000:=by have e:=ji l;unfold bI at e;omega
 generalize pack l=ps at*;have hc0:=hg.cell 0;simp at hc0;go_enter func124,ntmps124;have hcl:=pO A ps.length c ps w hs hl;have HC:=ah hcl;clear hcl hl hsm;go_wp2_with (go_at_call 103;refine HC.out.mono ?_;rintro e w' ⟨v,rfl,hv',hb'⟩);go_ret;exact ⟨_,rfl,hv',hb'⟩
theorem L5 (l:List Bool) (k:Nat) (h:l.length+k=8*bI l.length):pack (l++List.replicate k false)=pack l:=by
 have e:∀j,nY (l++List.replicate k false) j=nY l j:=by
  intro j;unfold nY
  congr 1
  rcases kD j l.length with hj|hj
  ·simp[List.getD_eq_getElem?_getD,List.getElem?_append_left hj]
  ·simp only[Ov,oI hj,kV hj];rcases kD (j-l.length) k with hk|hk
   ·simp[hk]
   ·simp[List.getElem?_eq_none (show (List.replicate k false).length<=j-l.length by simpa using hk)]
 have hn:bI (l++List.replicate k false).length=bI l.length:=by simp[bI] at h ⊢;omega
 unfold pack iU;rw[hn];simp only[e]
theorem Ox (B g:Nat) (l:List Bool) (w:World) (h:tV w B g l) (hsm:l.length<1000000000):
 Calls prog 172 #[.pointer (some g)] w fun e w'=>e= .returned (.int .i64 0)/\tV w' B g (l++List.replicate (8*bI l.length-l.length) false)/\Kept (Mw B g) w w':=by
 obtain ⟨hB,v,hg,hv⟩:=h;have hc0:=hg.cell 1;have hf0:=hg.frozen 1;simp at hc0;have hp:=L5 l (8*bI l.length-l.length) (by simp[bI];omega);have hL:(l++List.replicate (8*bI l.length-l.length) false).length=(l.length+7)/8*8:=by simp[bI];omega
 have HP:=ah hp;have HL:=ah hL;clear hp hL;generalize hn:l.length=n at*;have HN:=ah hn;clear hn;go_enter func172,ntmps172;go_wp2;go_ret;refine ⟨rfl,⟨hB,v,?_,?_⟩,(Kept.refl _ w).setCell (p:=⟨g,1,none⟩) (fun _ _=>⟨hB,.inl rfl⟩) _⟩
 ·have:=hg.ay 1 (.int .i64 (((n:Int)+7)/8*8));rw[HL.out];simpa using this
 ·rw[HP.out];exact hv.kept (aR w g 1 _) (.inr (aK hv hg (by decide)))
theorem Ua (v wd:Nat) (w:World) (h64:wd<=64) (hv:v<2 ^ wd) (_anw:v<18446744073709551616):
 Calls prog 166 #[.agg #[.int .u64 v,wd]] w fun e w'=>e= .returned (.int .i64 0)/\w.alloc (.cells #[.int .u64 v,wd] 206)=w':=by
 have h0:(v:Int)/2 ^ wd=0:=by
  have:((v/2 ^ wd:Nat):Int)=0:=by rw[Nat.div_eq_of_lt hv];rfl
  push_cast at this
  exact this
 by_cases hw:wd<64
 ·go_enter func166,ntmps166;go_wp2;go_ret;exact ⟨rfl,rfl⟩
 ·go_enter func166,ntmps166;go_wp2;go_ret;exact ⟨rfl,rfl⟩
def dA:List (Nat × Nat)->List Value
 | []=> []
 |(v,n)::l=> .int .u64 v:: .int .i64 n::dA l
theorem vW (l:List (Nat × Nat)) (i v n:Nat) (h:l[i]? =some (v,n)):(dA l)[i*2]? =some (.int .u64 v)/\(dA l)[i*2+1]? =some (.int .i64 n):=by
 induction l generalizing i with
 |nil=>simp at h
 |cons x l ih=>
  obtain ⟨v',n'⟩:=x;cases i with
  |zero=>simp at h;simp[dA,h]
  |succ i=>
   have:=ih i (by simpa using h);rw[show (i+1)*2=i*2+1+1 by omega];simpa[dA] using this
def aC (l:List (Nat × Nat)):List Bool:=l.flatMap fun x=>bitsOf x.1 x.2
theorem EB (l:List (Nat × Nat)) (x:Nat × Nat):aC (l++ [x])=aC l++bitsOf x.1 x.2:=by simp[aC]
theorem BF (l:List (Nat × Nat)) (h:∀x∈l,x.2<=64):(aC l).length<=64*l.length:=by
 induction l with
 |nil=>simp[aC]
 |cons x l ih=>
  have h1:=h x (by simp);have h2:=ih (fun y hy=>h y (by simp[hy]));unfold aC at h2 ⊢;rw[List.flatMap_cons,l8,jh,rJ];omega
theorem tV.alloc {w:World} {B g:Nat} {l:List Bool} (h:tV w B g l) (o:Obj):tV (w.alloc o) B g l:=by
 obtain ⟨hB,v,hg,hv⟩:=h;exact ⟨hB,v,hg.alloc _,hv.alloc _⟩
theorem tV.ae3 {w w':World} {B g:Nat} {l:List Bool} (h:tV w B g l) (hk:Kept (fun _ _=>False) w w'):tV w' B g l:=by
 obtain ⟨hB,v,hg,hv⟩:=h;refine ⟨hB,v,hg.kept hk (fun h=>h),hv.kept (row:=none) ⟨hk.os,hk.tape,hk.output,hk.size,fun k hlt _=> ?_⟩ ?_⟩
 ·rw[rH hlt];exact hk.same k _ (rH hlt) (fun h=>h)
 ·rcases hb:v.ownBlock with _|k
  ·exact .inl rfl
  ·exact .inr (by simp)
theorem lg (B g b:Nat) (l:List Bool) (fs:List (Nat × Nat)) (w:World) (h:tV w B g l) (hsm:l.length<1000000) (hk:fs.length<1000)
 (hb:av w b 206 (dA fs).toArray) (hok:∀x∈fs,x.2<=64/\x.1<2 ^ x.2/\x.1<18446744073709551616):
 Calls prog 122 #[.pointer (some g),.slice (some ⟨b,0,none⟩) fs.length fs.length] w fun e w'=>e= .returned (.int .i64 0)/\tV w' B g (l++aC fs)/\Kept (Mw B g) w w':=by
 have hbg:b≠g:=by
  rintro rfl;obtain ⟨_,v,hg,_⟩:=h;unfold av at hg hb;rw[hg] at hb;injection hb with hb
  injection hb with _ h2
  exact absurd h2 (by decide)
 have nb:¬Mw B g b (.cells (dA fs).toArray 206 (0,0)):=by
  rintro ⟨_,e|⟨cs,fr,e⟩⟩
  ·exact hbg e
  ·cases e
 have IP:=ah hok;clear hok;obtain ⟨N,hN⟩:∃N,N=fs.length:=⟨_,rfl⟩
 rw[<-hN] at hk ⊢;have HN:=ah hN;clear hN;go_enter func122,ntmps122;go_wp2
 go_loopw [14] (fun i wr=>∃k:Nat,k<=N/\i= .int .i64 k/\Kept (fun _ _=>False) w wr) (fun i _=>N-(intOf i).toNat)
 case atStart=>exact ⟨0,eH _,rfl,Kept.refl _ _⟩
 case round=>
  obtain ⟨k,hkN,rfl,Og⟩:=hrel;have hb1:=hb.kept Og (fun h=>h);by_cases hlt:k<N
  ·obtain ⟨⟨fv,fw⟩,hf⟩:∃f,fs[k]? =some f:=⟨_,gX (by rw[<-HN.out];exact hlt)⟩
   obtain ⟨f1,f2⟩:=vW fs k fv fw hf;obtain ⟨g1,g2,g3⟩:=IP.out _ (iT hf);have c1:=hb1.cell (k*2);have c2:=hb1.cell (k*2+1);simp only[nW,f1,f2] at c1 c2;dsimp only at c1 c2 g1 g2 g3;have HF:=ah hf;clear f1 f2 hf;go_wp2_with (go_at_call 166;refine (Ua fv fw _ g1 g2 g3).mono ?_;rintro e w' ⟨rfl,rfl⟩)
   go_roundw
   case rel=>exact ⟨k+1,by omega,by go_num,(Og.alloc _).alloc _⟩
   case measure=>simp[intOf];omega
  ·go_wp2
   go_loopw [26] (fun i wr=>∃k:Nat,k<=N/\i= .int .i64 k/\tV wr B g (l++aC (fs.take k))/\Kept (Mw B g) w wr) (fun i _=>N-(intOf i).toNat)
   case atStart=>exact ⟨0,eH _,rfl,by simpa[aC] using h.ae3 Og,Og.mono (fun _ _ h=>h.elim)⟩
   case round=>
    clear hb1 Og hlt hkN;obtain ⟨k,hkN,rfl,hWt,Og⟩:=hrel;have hb1:=hb.kept Og nb;by_cases hlt:k<N
    ·obtain ⟨⟨fv,fw⟩,hf⟩:∃f,fs[k]? =some f:=⟨_,gX (by rw[<-HN.out];exact hlt)⟩
     obtain ⟨f1,f2⟩:=vW fs k fv fw hf;obtain ⟨g1,g2,g3⟩:=IP.out _ (iT hf);have c1:=hb1.cell (k*2);have c2:=hb1.cell (k*2+1);simp only[nW,f1,f2] at c1 c2;dsimp only at c1 c2 g1 g2 g3;have hl2:(l++aC (fs.take k)).length<100000000:=by
      have:=BF (fs.take k) (fun x hx=>(IP.out x (List.mem_of_mem_take hx)).1);have h3:(fs.take k).length<=k:=List.length_take_le _ _;rw[l8];omega
     have hts:aC (fs.take (k+1))=aC (fs.take k)++bitsOf fv fw:=by
      rw[pX,hf];exact EB _ _
     have HF:=ah hf;have HT:=ah hts;have HL2:=ah hl2;clear f1 f2 hf hts hl2;have hput:=fun W hW=>XD B g fv fw (l++aC (fs.take k)) W g3 g1 hW HL2.out
     have qL:=ah hput;clear hput;go_wp2_with (go_at_call 167;refine (qL.out _ (hWt.alloc _)).mono ?_;rintro e w' ⟨rfl,hw',hk'⟩)
     go_roundw
     case rel=>exact ⟨k+1,by omega,by go_num,by rw[HT.out,<-oJ];exact hw',(Og.alloc _).trans hk'⟩
     case measure=>simp[intOf];omega
    ·have e:fs.take k=fs:=kI (by rw[<-HN.out];omega);rw[e] at hWt;go_wp2;go_ret;exact ⟨rfl,hWt,Og⟩
def aj (ps:List (List UInt8)):Nat:=(ps.map List.length).sum
theorem Ud (n:Nat) (w:World) (hsm:n<=1000000000):Calls prog 204 #[.slice none 0 0,n] w (vV w 5 w 0 []):=by
 obtain ⟨i0,hi,hz0,hz1,hz2⟩:=vz xg;rcases oV n with rfl|hpos
 ·go_enter func204,ntmps204;go_wp2;go_ret;exact ⟨_,rfl,jl _ _ _ _,bS _ _⟩
 ·have hr:=Lib.run_append_nil_zeros (P:=prog) w 31 3 31 5 i0 (.int .u8 0) .i64 .i64 und29 (by kernel_rfl) hi hz0 n hpos (by omega) (by omega) (by rw[hz2];omega);have hcap:=grownCap_ge w n 0 5;have hmx:=grownCap_le_maxLen w n 0 5 (by unfold maxLen;omega);unfold maxLen at hmx;generalize grownCap w n 0 5=cap at*;have HR:=ah hr;clear hr;go_enter func204,ntmps204;go_wp2_with (at_builtin;refine Lib.wpList_append_run _ rfl _ _ 31 3 rfl (.slice none 0 0) n rfl rfl _ _ HR.out ?_);go_ret;refine ⟨_,rfl,⟨rfl,.inr ⟨w,cap,_,rfl,aL,Et w _,eH _,by unfold maxLen;omega,?_,rfl⟩⟩,((bS _ w).alloc (aL) _).drew⟩;rw[Array.size_append,G9,G9];simp;omega
theorem EC:aj []=0:=rfl
theorem jG (ps:List (List UInt8)) (k:Nat) (h:k<ps.length):aj (ps.take (k+1))=aj (ps.take k)+(ps[k]?.getD []).length:=by
 unfold aj;rw[pX,gX h,Er,List.sum_append];rfl
theorem J5 (ps:List (List UInt8)) (k:Nat) (h:k<ps.length):(ps.take (k+1)).flatten=(ps.take k).flatten++ps[k]?.getD []:=by
 rw[pX,gX h,List.flatten_append];simp
theorem jH (ps:List (List UInt8)):ps.flatten.length=aj ps:=by simp[aj,List.length_flatten]
theorem fB (ps:List (List UInt8)) (k:Nat):aj (ps.take k)<=aj ps:=by
 conv=>rhs;rw[<-List.take_append_drop k ps]
 unfold aj;rw[Er,List.sum_append];omega
theorem ED (A:Option Addr) (n c:Nat) (vs:List Value) (ps:List (List UInt8)) (w:World) (h:jW w w A n c vs ps) (hsm:aj ps<=100000000):
 Calls prog 173 #[.slice A n c] w (vV w 5 w (aj ps) (dz ps.flatten)):=by
 obtain ⟨i0,hi,hz0,hz1,hz2⟩:=vz xg;have hn63:n<=9223372036854775807:=by have:=h.sl.cap;have:=h.sl.mx;omega
 have HL:=ah h.len;have zP:=ah hsm;clear hsm;go_enter func173,ntmps173;go_wp2
 go_loop [3,11] (fun t i=>∃k:Nat,k<=n/\i= .int .i64 k/\t= .int .i64 (aj (ps.take k))) (fun _ i=>n-(intOf i).toNat)
 case atStart=>exact ⟨0,eH _,rfl,rfl⟩
 case round=>
  obtain ⟨k,hk,rfl,rfl⟩:=hrel;by_cases hlt:k<n
  ·obtain ⟨ad,Ai,ci,rfl,hb,hc,hsl⟩:=h.get hlt;have hs1:=jG ps k (by rw[HL.out];exact hlt);have hle1:=gG (fB ps (k+1)) zP.out;have hle0:=gG (fB ps k) zP.out;generalize ps[k]?.getD []=p at*;generalize aj (List.take k ps)=S at*;have hle2:S+p.length<=100000000:=by omega
   have HS:=ah hs1;clear hs1 hle1;go_wp2
   go_round
   case rel=>exact ⟨k+1,by omega,by go_num,by rw[HS.out];go_num⟩
   case measure=>simp[intOf];omega
  ·have e:ps.take k=ps:=kI (by rw[HL.out];omega);rw[e];have hle:=zP.out;generalize hS:aj ps=S at*;have HS:=ah hS;clear hS;go_wp2_with (go_at_call 204;refine (Ud S w (by omega)).mono ?_;rintro e w1 ⟨v1,rfl,hv1,hb1⟩);clear hk hlt e
   go_loopw [6,27] (fun v i wr=>∃k:Nat,k<=n/\i= .int .i64 k/\wr.ownsRow w 5 1 v (aj (ps.take k)) (dz (ps.take k).flatten)/\Below w w wr) (fun _ i _=>n-(intOf i).toNat)
   case atStart=>exact ⟨0,eH _,rfl,by simpa[aj,dz] using hv1,hb1⟩
   case round=>
    clear hv1 hb1;obtain ⟨k,hk,rfl,hown,hbw⟩:=hrel;by_cases hlt:k<n
    ·obtain ⟨ad,Ai,ci,rfl,hb,hc,hsl⟩:=(h.below hbw).get hlt;have hs1:=jG ps k (by rw[HL.out];exact hlt);have hf1:=J5 ps k (by rw[HL.out];exact hlt);have hle1:=fB ps (k+1);rw[HS.out] at hle1;generalize ps[k]?.getD []=p at*;generalize aj (List.take k ps)=S1 at*;generalize (List.take k ps).flatten=F1 at*;have hle2:S1+p.length<=100000000:=by omega
     have IQ:=ah hs1;have XE:=ah hf1;clear hs1 hle1 hf1;go_wp2_with (at_builtin;refine nG _ rfl _ _ 31 rfl w 5 i0 (.int .u8 0) 1 und29 hi hz0 hz1 hz2 rfl _ S1 (dz F1) rfl hown w Ai p.length ci (dz p) rfl hsl (J2 p) ?c3 ?c4 ?c5 ?_)
     case c3=>unfold maxLen;omega
     case c4=>omega
     case c5=>exact hbw.size
     intro v' w2 hown' hgrow _;go_wp2
     go_roundw
     case rel=>exact ⟨k+1,by omega,by go_num,by rw[IQ.out,XE.out];simpa[dz] using hown',hbw.grown hgrow hbw.size (fun j hj=>(hown.lt j hj).1)⟩
     case measure=>simp[intOf];omega
    ·have e:ps.take k=ps:=kI (by rw[HL.out];omega);rw[e,HS.out] at hown;go_wp2;go_ret;exact ⟨_,rfl,hown,hbw⟩
end Go.Proofs.YtbhiklnljiehiaaGreat
