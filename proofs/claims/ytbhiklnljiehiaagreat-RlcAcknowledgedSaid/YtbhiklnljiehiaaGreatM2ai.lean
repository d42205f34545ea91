/- Plain mathematics: decoding undoes encod. -/
import Derived.Test.YtbhiklnljiehiaaGreatM2af
import Derived.Test.YtbhiklnljiehiaaGreatM2ag
import Derived.Test.YtbhiklnljiehiaaGreatM2ah
import Derived.Deep.RegionLaw
import Derived.Deep.CutBlock
namespace Go.Proofs.YtbhiklnljiehiaaGreat
theorem IR (a b c:List Bool) (d:List UInt8) (p k:Nat) (hp:a.length=p) (hk:b.length=k):aF (pack (a++(b++c))++d) p k=b:=by
 subst hp hk;rw[Fg _ _ _ _ (by simp),List.drop_left,List.take_left]
def lb:List Nat→List Bool
 | []=> []
 |n::l=>(bitsOf (decide (0<l.length)).toNat 1++bitsOf n 11)++lb l
end Go.Proofs.YtbhiklnljiehiaaGreat
namespace Go.Proofs.YtbhiklnljiehiaaGreat
theorem tV (bs:List UInt8):∀(f:Nat) (more:Bool) (pos:Nat) (acc:List Nat) (er:Nat),fZ bs f more pos acc= .inl er→er≠0
 |_,false,pos,acc,er,h=>by simp[fZ] at h
 |0,true,_,_,er,h=>by simp[fZ] at h;omega
 |f+1,true,pos,acc,er,h=>by
  simp only[fZ] at h;split at h
  ·cases h;omega
  ·split at h
   ·cases h;omega
   ·exact tV bs f _ _ _ er h
end Go.Proofs.YtbhiklnljiehiaaGreat
namespace Go.Proofs.YtbhiklnljiehiaaGreat
open Go.RowKit
theorem Below.drew' {w w':World} (h:Below w.drew.heap.size w.drew w'):Below w.heap.size w w':=((Below.refl w.heap.size w).drew).trans h
end Go.Proofs.YtbhiklnljiehiaaGreat
namespace Go.Proofs.YtbhiklnljiehiaaGreat
open Go.RowKit
theorem Sl.Zl {w:World} {B:Nat} {A:Option Addr} {n c k:Nat} {xs:List Value} (h:Sl w B A n c xs) (hk:k≤n):Sl w B A k c (xs.take k):=by
 have hl:=h.len;refine ⟨by simp;omega,by have:=h.cap;omega,h.mx,fun hp=> ?_⟩;obtain ⟨ad,e,hb,hc⟩:=h.at_ (by omega);refine ⟨ad,e,hb,fun j u hu=>hc j u ?_⟩;rw[List.getElem?_take] at hu;split at hu
 ·exact hu
 ·cases hu
end Go.Proofs.YtbhiklnljiehiaaGreat
namespace Go.Proofs.YtbhiklnljiehiaaGreat
open Go.RowKit
theorem dH {w:World} {base:Nat} {e:TypeId} {A:Option Addr} {c n:Nat} {xs:List Value} (h:w.ownsRow base e 1 (.slice A n c) n xs):Sl w w.heap.size A n c xs:=by
 obtain ⟨A',c',he,hs,_⟩:=bq h;cases he;exact hs
theorem aI {w:World} {base:Nat} {e t:TypeId} {v:Value} {n g i:Nat} {xs:List Value} {cs:Array Value} (h:w.ownsRow base e 1 v n xs) (hg:au w g t cs) (hne:e≠t) (u:Value):(w.setCell ⟨g,i,none⟩ u).ownsRow base e 1 v n xs:=
 h.kept (aO w g i u) (.inr (aJ h hg hne))
end Go.Proofs.YtbhiklnljiehiaaGreat
namespace Go.Proofs.YtbhiklnljiehiaaGreat
open Go.RowKit
theorem Sl.mid {w:World} {B n c a m:Nat} {A:Option Addr} {xs:List Value} (h:Sl w B A n c xs) (hm:a+m≤n):Sl w B (if c=a then A else A.map (·.add a)) m (c-a) ((xs.drop a).take m):=by
 have h1:=h.cut (k:=a) (by omega);exact h1.Zl (k:=m) (by omega)
end Go.Proofs.YtbhiklnljiehiaaGreat
namespace Go.Proofs.YtbhiklnljiehiaaGreat
open Go.RowKit
theorem qL (W:World) (x:Value) (t:TypeId):Sl (W.alloc (.cells #[x] t)).drew (W.alloc (.cells #[x] t)).heap.size (some ⟨W.heap.size,0,none⟩) 1 1 [x]:=
 (vB (xs:= [x]) (jC W (.cells #[x] t)) rfl (by simp)).drew
end Go.Proofs.YtbhiklnljiehiaaGreat
namespace Go.Proofs.YtbhiklnljiehiaaGreat
open Go.RowKit Go.Shelf
attribute [local go_sem] Oper.semAt_some
def qU (off:Nat) (ps:List (List UInt8)) (k:Nat):List Nat:=(List.range (k+1)).map fun i=>off+aj (ps.take i)
theorem LX (off:Nat) (ps:List (List UInt8)) (k:Nat):qU off ps (k+1)=qU off ps k++ [off+aj (ps.take (k+1))]:=by simp[qU,List.range_succ]
theorem zf (off:Nat) (ps:List (List UInt8)) (k i:Nat) (h:i≤k):(qU off ps k)[i]? =some (off+aj (ps.take i)):=by
 simp[qU,show i<k+1 by omega]
def FM (w:World) (off:Nat) (ps:List (List UInt8)) (e:Ending) (w':World):Prop:=
 ∃g v,e= .returned (.func (.func 197) #[] #[.pointer (some ⟨g,0,none⟩)])∧w.heap.size≤g∧au w' g 75 #[v]∧w'.ownsRow w.heap.size 3 1 v (ps.length+1) (iR (qU off ps ps.length))∧Below w.heap.size w w'
set_option maxRecDepth 100000 in
set_option maxHeartbeats 2000000 in
theorem zh (sn:Int) (po sg la:Bool) (off:Nat) (s e:Bool) (A:Option Addr) (n c:Nat) (vs:List Value) (ps:List (List UInt8)) (w:World) (h:iO w w.heap.size A n c vs ps) (hn:n≤1000) (hoff:off≤1000000) (hsum:aj ps≤1000000):
 Calls Tryz.prog 155 #[.agg (bH sn po sg la off s e A n c)] w (FM w off ps):=by
 obtain ⟨i0,hi,hz0,hz1,hz2⟩:=info_parts yF;have HL:=ah h.len;have pG:=ah hsum;clear hsum;unfold bH;go_enter Tryz.func155,Tryz.ntmps155;go_wp2;have hB0:=(((Below.refl w.heap.size w).alloc (aN) (.cells (bH sn po sg la off s e A n c) 148)).alloc (by simp) (.cells #[.int .i64 off] 3)).alloc (by simp;omega) (.cells #[.slice (some ⟨w.heap.size+1,0,none⟩) 1 1] 75);have hG0:=au.new ((w.alloc (.cells (bH sn po sg la off s e A n c) 148)).alloc (.cells #[.int .i64 off] 3)) 75 #[.slice (some ⟨w.heap.size+1,0,none⟩) 1 1];simp only[World.size_alloc] at hG0;have hO0:(((w.alloc (.cells (bH sn po sg la off s e A n c) 148)).alloc (.cells #[.int .i64 off] 3)).alloc (.cells #[.slice (some ⟨w.heap.size+1,0,none⟩) 1 1] 75)).ownsRow w.heap.size 3 1 (.slice (some ⟨w.heap.size+1,0,none⟩) 1 1) 1 [.int .i64 off]:=by
  have:=(World.ownsRow_lit (base:=w.heap.size) (e:=3) (size:=1) (w.alloc (.cells (bH sn po sg la off s e A n c) 148)) #[.int .i64 off] 1 (by simp) (by unfold maxLen;omega) rfl).alloc (.cells #[.slice (some ⟨w.heap.size+1,0,none⟩) 1 1] 75);rw[World.size_alloc] at this;exact this
 unfold bH at hB0 hG0 hO0;generalize ((w.alloc (.cells #[.int .i64 sn,.bool po,.bool sg,.bool la,.int .i64 off,.bool s,.bool e,.slice A n c] 148)).alloc (.cells #[.int .i64 off] 3)).alloc (.cells #[.slice (some ⟨w.heap.size+1,0,none⟩) 1 1] 75)=w1 at*
 go_loopw [13] (fun i wr=>∃(k:Nat) (v:Value),k≤n∧i= .int .i64 k∧au wr (w.heap.size+1+1) 75 #[v]∧wr.ownsRow w.heap.size 3 1 v (k+1) (iR (qU off ps k))∧Below w.heap.size w wr) (fun i _=>n-(intOf i).toNat)
 case atStart=>exact ⟨0,_,Nat.zero_le _,rfl,hG0,by simpa[qU,iR,aj] using hO0,hB0⟩
 case round=>
  clear hB0 hG0 hO0;obtain ⟨k,v,hk,rfl,bG,hown,hB⟩:=hrel;by_cases hlt:k<n
  ·obtain ⟨ad,Ai,ci,rfl,hbk,hc,hsl⟩:=(h.below hB).get hlt;have hs1:=fH ps k (by rw[HL.out];exact hlt);have hle1:=Nat.le_trans (bV ps (k+1)) pG.out;have hbs:=LX off ps k;have hlast:=zf off ps k k (aN);generalize ps[k]?.getD []=p at*;rw[hs1] at hbs;generalize aj (List.take k ps)=S at*;have hle2:S+p.length≤1000000:=by omega
   have ZM:=ah hbs;clear hs1 hbs hle1;obtain ⟨gv,cap,rfl,hgl,kL⟩:=hown.form (by omega);have hcl:=hown.cellAt k (by omega);have ZN:(iR (qU off ps k))[k]? =some (.int .i64 ((off:Int)+S)):=by simp[iR,hlast]
   rw[ZN] at hcl;clear ZN hlast;have g0:=bG.cell 0;have gf:=bG.frozen 0;simp at g0;have hGl:=bG.lt;have hw1:IntKind.i64.wrap ((k:Int)+1)=(k:Int)+1:=IntWalk.i64_in _ (by omega);have hk1:(k:Int)+1-1=k:=by omega
   have hk2:IntKind.i64.wrap (k:Int)=k:=IntWalk.i64_in _ (by omega);have hk3:IntKind.i64.wrap ((off:Int)+S+p.length)=(off:Int)+S+p.length:=IntWalk.i64_in _ (by omega);have hk4:(k:Int)<(k:Int)+1:=by omega
   go_upto_block 1 with (fail)
   go_cut [] (fun wx=>∃(A5:Option Addr) (c5:Nat),au wx (w.heap.size+1+1) 75 #[.slice A5 (k+1+1) c5]∧wx.ownsRow w.heap.size 3 1 (.slice A5 (k+1+1) c5) (k+1+1) (iR (qU off ps (k+1)))∧Below w.heap.size w wx)
   case first=>
    go_wp2
    go_region_law ((refine fu _ (by rfl) _ _ 75 (by rfl) w.heap.size 3 i0 (.int .i64 0) 8 II hi hz0 hz1 hz2 rfl (.slice (some ⟨gv,0,none⟩) (k+1) cap) (k+1) (iR (qU off ps k)) (by rfl) (World.ownsRow.drew' (hown.alloc (.cells #[.int .i64 ((off:Int)+S+p.length)] 3))) (wr.alloc (.cells #[.int .i64 ((off:Int)+S+p.length)] 3)).heap.size (some ⟨wr.heap.size,0,none⟩) 1 1 [.int .i64 ((off:Int)+S+p.length)] (by rfl) (qL wr (.int .i64 ((off:Int)+S+p.length)) 3) (by simp[Value.oneCell']) (by unfold maxLen;omega) (by omega) (by have:=hB.size;simp;omega) ?_;intro v5 w5 hown5 bR _;obtain ⟨A5,c5,rfl,hs5,_⟩:=bq hown5;have tH:=(bG.alloc (.cells #[.int .i64 ((off:Int)+S+p.length)] 3)).drew.grown bR (fun e=>aJ hown bG (by decide) e.symm);have q2:=tH.cell 0;have q3:=tH.frozen 0;simp at q2))
    all_goals
     have Wt:=tH.av 0 (.slice A5 (k+1+1) c5);simp at Wt;have hown6:=aI (i:=0) hown5 tH (by decide) (.slice A5 (k+1+1) c5);have lI:=(((hB.alloc hB.size (.cells #[.int .i64 ((off:Int)+S+p.length)] 3)).drew).grown bR (by have:=hB.size;simp;omega) (fun g hg=>by have:=(hown.lt g hg).1;omega)).setCell (p:=⟨w.heap.size+1+1,0,none⟩) (by simp;omega) (.slice A5 (k+1+1) c5);go_wp2_with fail;go_meet;refine ⟨A5,c5,Wt,?_,lI⟩;rw[ZM.out];have e1:iR (qU off ps k++ [off+(S+p.length)])=iR (qU off ps k)++ [.int .i64 ((off:Int)+S+p.length)]:=by simp[iR];omega
     rw[e1];exact hown6
   case rest=>
    obtain ⟨A5,c5,Wt,hown6,lI⟩:=hcut;clear hw1 hk1 hk2 hk3 hk4;go_wp2
    go_roundw
    case rel=>exact ⟨k+1,_,by omega,by go_num,Wt,hown6,lI⟩
    case measure=>simp[intOf];omega
  ·have hkn:k=ps.length:=by rw[HL.out];omega
   rw[hkn] at hown;clear hkn;go_wp2;go_ret;exact ⟨_,_,rfl,by omega,bG,hown,hB⟩
end Go.Proofs.YtbhiklnljiehiaaGreat
namespace Go.Proofs.YtbhiklnljiehiaaGreat
open Go.RowKit Go.Shelf
attribute [local go_sem] Oper.semAt_some
def xW (off:Nat) (ps:List (List UInt8)) (k:Nat):Array Value:= #[.int .i64 ((off+aj (ps.take k):Nat):Int),.int .i64 ((off+aj (ps.take (k+1)):Nat):Int)]
set_option maxRecDepth 100000 in
set_option maxHeartbeats 2000000 in
theorem wO (n:Nat) (hn:1≤n) (g B:Nat) (v:Value) (off:Nat) (ps:List (List UInt8)) (_hoff:off≤1000000) (hsum:aj ps≤1000000) (hlen:ps.length≤1000) (M:Nat→Obj→Prop) (w:World)
 (hg:au w g 75 #[v]) (hv:w.ownsRow B 3 1 v (ps.length+1) (iR (qU off ps ps.length))) (hMg:¬M g (.cells #[v] 75 (0,0))) (N5:∀k o,v.ownBlock=some k→¬M k o):
 Jc Fence.wide n Tryz.prog 197 #[.pointer (some ⟨g,0,none⟩)] (xW off ps) ps.length (Kept M) w:=fun l J W hW _ hY h0=>by
 have hg':=hg.below hW hg.lt;have hv':W.ownsRow B 3 1 v (ps.length+1) (iR (qU off ps ps.length)):=hv.kept (row:=none) ⟨hW.os,hW.tape,hW.output,hW.size,fun k hk _=>hW.block k hk⟩ (by
  rcases hb:v.ownBlock with _|k
  ·exact .inl rfl
  ·exact .inr (by simp))
 have hvk:∀wr,Kept M W wr→wr.ownsRow B 3 1 v (ps.length+1) (iR (qU off ps ps.length)):=fun wr hk=>jA hv' hk (fun k o _ hk2=>N5 k o hk2)
 have VF:=ah hvk;clear hvk;obtain ⟨gv,cap,rfl,hgl,kL⟩:=hv'.form (by omega);have HY:=ah hY;clear hY;have hcap:ps.length+1≤cap∧cap≤9223372036854775807:=by
  have hs:=dH hv';exact ⟨hs.cap,hs.mx⟩
 refine callsIn_of_wp Tryz.func197 rfl trivial ?_ rfl;simp only[Tryz.ntmps197,List.size_toArray,List.length_cons,List.length_nil,Nat.reduceAdd,Nat.reduceSub,Array.replicate_succ,Array.replicate_zero,List.push_toArray,List.append_toArray,List.nil_append,List.cons_append];have hcw:=hg'.cell 0;simp at hcw;refine jh ?_
 gi_wp2
 refine wpIn_label ?_
 gi_wp2
 gi_loopw [11] (fun i wr=>∃k:Nat,k≤ps.length∧i= .int .i64 k∧J k wr∧Kept M W wr) (fun i _=>ps.length-(intOf i).toNat)
 case atStart=>exact ⟨0,Nat.zero_le _,by simp,h0,Kept.refl _ _⟩
 case round=>
  obtain ⟨k,hk,rfl,hJs,hnx⟩:=hrel;by_cases hlt:k<ps.length
  ·have N6:=VF.out wr hnx;have hgr:=hg'.kept hnx hMg;have hc0:=hgr.cell 0;simp at hc0;have hck:=N6.cellAt k (by omega);have aer:=N6.cellAt (k+1) (by omega);have e0:=zf off ps ps.length k (by omega);have e1:=zf off ps ps.length (k+1) (by omega);have EW:=HY.out k wr hlt hJs;unfold xW at EW;have b0:aj (ps.take k)≤1000000:=Nat.le_trans (bV ps k) hsum;have b1:aj (ps.take (k+1))≤1000000:=Nat.le_trans (bV ps (k+1)) hsum;simp only[iR,List.getElem?_map,e0,e1,Option.map_some] at hck aer;generalize off+aj (ps.take k)=a at*;generalize off+aj (ps.take (k+1))=b at*;obtain ⟨fn,tmps,assign,body,hy,hR⟩:=EW;clear e0 e1 b0 b1 N6
   gi_wp2
   refine hR.mono ?_;rintro e W3 ⟨rfl,hJ3,hk3⟩
   gi_wp2
   go_roundw
   case rel=>exact ⟨k+1,by omega,by go_num,hJ3,hnx.trans hk3⟩
   case measure=>simp[intOf];omega
  ·have e:k=ps.length:=by omega
   have Dz:J ps.length wr:=by rw[e] at hJs;exact hJs
   clear e hJs
   gi_wp2
   rw[Exit.noGoto_normal]
   go_end0
   exact ⟨⟨_,rfl⟩,Dz⟩
end Go.Proofs.YtbhiklnljiehiaaGreat
namespace Go.Proofs.YtbhiklnljiehiaaGreat
section
open Go.RowKit Go.Shelf
attribute [local go_sem] Oper.semAt_some
def bF (w:World) (base:Nat) (vo:Value) (ps:List (List UInt8)):Prop:=
 ∃vs,w.ownsRow base 31 1 vo ps.length vs∧∀(i:Nat) (p:List UInt8),ps[i]? =some p→∃A c,vs[i]? =some (.slice A p.length c)∧w.ownsRow base 5 1 (.slice A p.length c) p.length (bO p)
def FO (w:World) (sn:Int) (kJ:Bool) (fr:Int) (s e:Bool) (ps:List (List UInt8)) (en:Ending) (w':World):Prop:=
 Below w.heap.size w w'∧∃A c,en= .returned (.tuple #[.agg (bH sn false true kJ fr s e A ps.length c),.int .i64 0])∧bF w' w.heap.size (.slice A ps.length c) ps
theorem au.OP {w:World} {g:Nat} {t:TypeId} {x0 x1 x2 x3 x4 x5 x6 x7:Value} (b:au w g t #[x0,x1,x2,x3,x4,x5,x6,x7]) (u0 u1 u2 u3 u4 u5 u6 u7:Value):
 au ((((((((w.setCell ⟨g,0,none⟩ u0).setCell ⟨g,1,none⟩ u1).setCell ⟨g,2,none⟩ u2).setCell ⟨g,3,none⟩ u3).setCell ⟨g,4,none⟩ u4).setCell ⟨g,5,none⟩ u5).setCell ⟨g,6,none⟩ u6).setCell ⟨g,7,none⟩ u7) g t #[u0,u1,u2,u3,u4,u5,u6,u7]:=by
 have:=(((((((b.av 0 u0).av 1 u1).av 2 u2).av 3 u3).av 4 u4).av 5 u5).av 6 u6).av 7 u7;simpa using this
theorem oz {B:Nat} {a w:World} (hb:Below B a w) {g:Nat} (hg:B≤g) (u0 u1 u2 u3 u4 u5 u6 u7:Value):
 Below B a ((((((((w.setCell ⟨g,0,none⟩ u0).setCell ⟨g,1,none⟩ u1).setCell ⟨g,2,none⟩ u2).setCell ⟨g,3,none⟩ u3).setCell ⟨g,4,none⟩ u4).setCell ⟨g,5,none⟩ u5).setCell ⟨g,6,none⟩ u6).setCell ⟨g,7,none⟩ u7):=
 (((((((hb.setCell (p:=⟨g,0,none⟩) hg u0).setCell (p:=⟨g,1,none⟩) hg u1).setCell (p:=⟨g,2,none⟩) hg u2).setCell (p:=⟨g,3,none⟩) hg u3).setCell (p:=⟨g,4,none⟩) hg u4).setCell (p:=⟨g,5,none⟩) hg u5).setCell (p:=⟨g,6,none⟩) hg u6).setCell (p:=⟨g,7,none⟩) hg u7
end
end Go.Proofs.YtbhiklnljiehiaaGreat
