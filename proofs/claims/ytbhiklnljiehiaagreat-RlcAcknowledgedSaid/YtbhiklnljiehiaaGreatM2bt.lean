/- umsend: New, none, total, left, Waiting. -/
import Derived.Test.YtbhiklnljiehiaaGreatM2bs
import Derived.ScopeJumps
import Derived.WalkMore
import Derived.Outline
import Derived.MapKept
import Derived.Lib.BytesEntry
namespace Go.Proofs.YtbhiklnljiehiaaGreat
open Go.RowKit Go.Shelf
attribute [local go_sem] Oper.semAt_some
structure RJ (w:World) (base g:Nat) (v:Value) (vs:List Value) (aK:List (List UInt8)) (sent cap next:Nat):Prop where
 blk:au w g 245 #[v,.int .i64 sent,.int .i64 cap,.int .i64 next]
 row:dR w base 31 v aK.length vs
 each:∀(i:Nat) (p:List UInt8),aK[i]? =some p→∃A c,vs[i]? =some (.slice A p.length c)∧w.ownsRow base 5 1 (.slice A p.length c) p.length (bO p)
end Go.Proofs.YtbhiklnljiehiaaGreat
namespace Go.Proofs.YtbhiklnljiehiaaGreat
open Go.RowKit Go.Shelf
attribute [local go_sem] Oper.semAt_some
end Go.Proofs.YtbhiklnljiehiaaGreat
namespace Go.Proofs.YtbhiklnljiehiaaGreat
open Go.RowKit Go.Shelf
attribute [local go_sem] Oper.semAt_some
def MQ (g:Nat) (v:Value) (k:Nat) (_:Obj):Prop:=k=g∨aT v=some k
def Oh (w:World) (base g:Nat) (v:Value) (sent cap next:Nat) (aK:List (List UInt8)) (x:List UInt8) (w':World):Prop:=
 ∃v' vs',RJ w' base g v' vs' (aK++ [x]) sent cap next∧Kept (MQ g v) w w'∧(∀k,aT v'=some k→aT v=some k∨w.heap.size≤k)
end Go.Proofs.YtbhiklnljiehiaaGreat
namespace Go.Proofs.YtbhiklnljiehiaaGreat
open Go.RowKit Go.Shelf
attribute [local go_sem] Oper.semAt_some
end Go.Proofs.YtbhiklnljiehiaaGreat
namespace Go.Proofs.YtbhiklnljiehiaaGreat
section
open Go.RowKit Go.Shelf
attribute [local go_sem] Oper.semAt_some
theorem RL {w:World} {base:Nat} {Ux:Addr} {cx sent m:Nat} {x:List UInt8} (h:w.ownsRow base 5 1 (.slice (some Ux) x.length cx) x.length (bO x)) (hm:1≤m) (hs:sent+m≤x.length):Sl w w.heap.size (some (Ux.add sent)) m m (bO ((x.drop sent).take m)):=by
 have hsx:=dH h;have hcap:=hsx.cap;have hmx:=hsx.mx;have hmid:=hsx.mid (a:=sent) (m:=m) hs;rw[if_neg (by omega),Option.map_some] at hmid;have e1:((bO x).drop sent).take m=bO ((x.drop sent).take m):=by simp[bO]
 rw[e1] at hmid;exact ⟨hmid.len,aN,by omega,hmid.at_⟩
end
section
open Go.RowKit Go.Shelf
attribute [local go_sem] Oper.semAt_some
end
section
open Go.RowKit Go.Shelf
attribute [local go_sem] Oper.semAt_some
def qa (w:World) (base:Nat) (vl:List Value) (qs:List (List UInt8)):Prop:=
 ∀(j:Nat) (q:List UInt8),qs[j]? =some q→∃(Ux:Addr) (cx off:Nat) (x:List UInt8),vl[j]? =some (.slice (some (Ux.add off)) q.length q.length)∧w.ownsRow base 5 1 (.slice (some Ux) x.length cx) x.length (bO x)∧q=(x.drop off).take q.length∧1≤q.length∧off+q.length≤x.length
theorem qa.keep {w w':World} {base:Nat} {vl:List Value} {qs:List (List UInt8)} (h:qa w base vl qs) (hk:∀(v:Value) (n:Nat) (xs:List Value),w.ownsRow base 5 1 v n xs→w'.ownsRow base 5 1 v n xs):qa w' base vl qs:=
 fun j q hj=>let ⟨Ux,cx,off,x,h1,h2,h3⟩:=h j q hj;⟨Ux,cx,off,x,h1,hk _ _ _ h2,h3⟩
theorem qa.each {w:World} {base:Nat} {vl:List Value} {qs:List (List UInt8)} (h:qa w base vl qs) (j:Nat) (q:List UInt8) (hj:qs[j]? =some q):∃A c,vl[j]? =some (.slice A q.length c)∧Sl w w.heap.size A q.length c (bO q):=by
 obtain ⟨Ux,cx,off,x,h1,h2,h3,h4,h5⟩:=h j q hj;refine ⟨_,_,h1,?_⟩;have:=RL (sent:=off) (m:=q.length) h2 h4 h5;rw[←h3] at this;exact this
end
section
open Go.RowKit Go.Shelf
attribute [local go_sem] Oper.semAt_some
end
section
open Go.RowKit Go.Shelf
attribute [local go_sem] Oper.semAt_some
theorem RJ.next {w:World} {base g:Nat} {v:Value} {vs:List Value} {aK:List (List UInt8)} {sent cap next:Nat} (h:RJ w base g v vs aK sent cap next) (n':Nat):RJ (w.setCell ⟨g,3,none⟩ (.int .i64 n')) base g v vs aK sent cap n':=
 ⟨by simpa using h.blk.av 3 (.int .i64 (n':Int)),h.row.store h.blk (by decide) _,fun i p hi=>let ⟨A,c,k1,k2⟩:=h.each i p hi;⟨A,c,k1,aI (i:=3) k2 h.blk (by decide) _⟩⟩
end
end Go.Proofs.YtbhiklnljiehiaaGreat
namespace Go.Proofs.YtbhiklnljiehiaaGreat.Tm
open Go.RowKit
attribute [local go_sem] Oper.semAt_some
theorem jD (g:Nat) (k:Int) (x y:Value) (w:World) (hb:au w g 109 #[.int .i64 k,x,y]):Calls Tryz.prog 66 #[.pointer (some ⟨g,0,none⟩)] w fun e w'=>e= .returned (.bool (k==0))∧w=w':=by
 have x0:=hb.cell 0;simp at x0;go_enter Tryz.func66,Tryz.ntmps66;go_wp2;go_ret;exact ⟨rfl,rfl⟩
theorem Uz:Tryz.prog.underlying 103=some (.map 72 101):=by kernel_rfl
theorem l7:Tryz.prog.underlying 72=some (.int .i64):=by kernel_rfl
theorem heap_set (w:World) (o o':Obj):(w.alloc o).heap.setIfInBounds w.heap.size o'=(w.alloc o').heap:=by
 show (w.heap.push o).setIfInBounds w.heap.size o'=w.heap.push o'
 apply Array.ext_getElem?;intro i;rw[Array.getElem?_setIfInBounds];by_cases h:w.heap.size=i
 ·subst h;simp
 ·have h':¬i=w.heap.size:=fun e=>h e.symm
  simp[h,h',Array.getElem?_push]
theorem LD (w:World) (o o':Obj):({heap:=(w.alloc o).heap.setIfInBounds w.heap.size o',tape:=w.tape,drawn:=w.drawn,os:=(w.alloc o).os,output:=(w.alloc o).output}:World)=w.alloc o':=by
 rw[heap_set];rfl
theorem DJ (w:World) (es:Array MapEntry) (clock:Nat) (key:Int) (val:Value) (hf:Instr.findNow (.int .i64) (.int .i64 key) es.toList 0=some none):
 (Instr.mapUpdate 103 (.map (some w.heap.size)) (.int .i64 key) val).run Tryz.prog (w.alloc (.map es clock))= .ok () (w.alloc (.map (es.push {key:= .int .i64 key,val:=val,born:=clock}) (clock+1))):=by
 have hb:(w.alloc (.map es clock)).heap[w.heap.size]? =some (.map es clock):=jC w _;have hc:(Instr.checkKey false 10000 72 (.int .i64 key)).run Tryz.prog (w.alloc (.map es clock))= .ok () (w.alloc (.map es clock)):=MapKept.run_checkKey (k:= .int .i64 key) l7 (by simp[MapKept.IsKey]) false 9999;simp[Instr.mapUpdate,run_underlying Uz,MapKept.run_getObj_map hb,hc,MapKept.run_findKey l7 hf,MapKept.run_setObj_map _ hb,Result.andThen,LD]
def Nw:Array MapEntry:= #[{key:= .int .i64 1,val:= .func (.func 108) #[] #[],born:=0},{key:= .int .i64 2,val:= .func (.func 109) #[] #[],born:=1},{key:= .int .i64 3,val:= .func (.func 112) #[] #[],born:=2}]
theorem yO (w:World):Calls Tryz.prog 65 #[] w fun e w'=>e= .returned (.map (some w.heap.size))∧w.alloc (.map Nw 3)=w':=by
 have hmm:= @run_makeMap Tryz.prog;have h1:=DJ w #[] 0 1 (.func (.func 108) #[] #[]) rfl;have h2:=DJ w #[{key:= .int .i64 1,val:= .func (.func 108) #[] #[],born:=0}] 1 2 (.func (.func 109) #[] #[]) rfl;have h3:=DJ w #[{key:= .int .i64 1,val:= .func (.func 108) #[] #[],born:=0},{key:= .int .i64 2,val:= .func (.func 109) #[] #[],born:=1}] 2 3 (.func (.func 112) #[] #[]) rfl;simp at h1 h2 h3;go_enter Tryz.func65,Tryz.ntmps65;go_wp2;go_ret;exact ⟨rfl,rfl⟩
theorem Kz (w:World) (m:Nat) (k:Int) (hb:w.heap[m]? =some (.map Nw 3)) (f:FuncId) (h:(k=1∧f=108)∨(k=2∧f=109)∨(k=3∧f=112)):
 (Instr.lookup 103 (.map (some m)) (.int .i64 k) true).run Tryz.prog w= .ok (.tuple #[.func (.func f) #[] #[],.bool true]) w:=by
 have hc:(Instr.checkKey false 10000 72 (.int .i64 k)).run Tryz.prog w= .ok () w:=MapKept.run_checkKey (k:= .int .i64 k) l7 (by simp[MapKept.IsKey]) false 9999;have hf:∃i,Instr.findNow (.int .i64) (.int .i64 k) Nw.toList 0=some (some (i,.func (.func f) #[] #[])):=by
  rcases h with ⟨rfl,rfl⟩|⟨rfl,rfl⟩|⟨rfl,rfl⟩
  ·exact ⟨0,rfl⟩
  ·exact ⟨1,rfl⟩
  ·exact ⟨2,rfl⟩
 obtain ⟨i,hf⟩:=hf;have he:Nw.isEmpty=false:=rfl;simp[Instr.lookup,run_underlying Uz,MapKept.run_getObj_map hb,he,hc,MapKept.run_findKey l7 hf,Result.andThen]
end Go.Proofs.YtbhiklnljiehiaaGreat.Tm
namespace Go.Proofs.YtbhiklnljiehiaaGreat.Tm
open Go.RowKit
attribute [local go_sem] Oper.semAt_some
def cfg (m c r a0 a1 a2 a3 a4 a5 a6:Int):Array Value:= #[.int .i64 m,.int .i64 c,.int .i64 r,.int .i64 a0,.int .i64 a1,.int .i64 a2,.int .i64 a3,.int .i64 a4,.int .i64 a5,.int .i64 a6]
def Zm (w:World) (k c:Int) (g t:Nat) (w':World):Prop:=
 au w' g 109 #[.int .i64 k,.iface 175 (.pointer (some ⟨t,0,none⟩)),.pointer none]∧au w' t 179 #[.slice none 0 0,.int .i64 c]∧w.heap.size≤g∧w.heap.size≤t∧g≠t∧Below w.heap.size w w'
def VW (w:World) (c:Int) (ok:Bool) (e:Ending) (w':World):Prop:=∃g t,e= .returned (.tuple #[.pointer (some ⟨g,0,none⟩),.bool ok])∧Zm w 0 c g t w'
set_option maxHeartbeats 1000000 in
theorem RN (m c r a0 a1 a2 a3 a4 a5 a6:Int) (w:World):Calls Tryz.prog 108 #[.agg (cfg m c r a0 a1 a2 a3 a4 a5 a6)] w (VW w c (decide (1≤c)&&decide (c≤1048576))):=by
 unfold cfg;by_cases h1:1≤c
 ·have d:(decide (1≤c)&&decide (c≤1048576))=decide (c≤1048576):=by simp[h1]
  have HD:=ah d;clear d;go_enter Tryz.func108,Tryz.ntmps108;go_wp2
  go_region
  all_goals
   go_wp2_with fail
   go_ret2
   refine ⟨w.heap.size+1+1,w.heap.size+1,by rw[HD.out];rfl,?_,?_,by omega,by omega,by omega,?_⟩
   ·have b:=au.new ((w.alloc (.cells #[.int .i64 m,.int .i64 c,.int .i64 r,.int .i64 a0,.int .i64 a1,.int .i64 a2,.int .i64 a3,.int .i64 a4,.int .i64 a5,.int .i64 a6] 74)).alloc (.cells #[.slice none 0 0,.int .i64 c] 179)) 109 #[.int .i64 0,.iface 175 (.pointer (some ⟨w.heap.size+1,0,none⟩)),.pointer none];simp only[World.size_alloc] at b;exact b.drew
   ·have b:=(au.new (w.alloc (.cells #[.int .i64 m,.int .i64 c,.int .i64 r,.int .i64 a0,.int .i64 a1,.int .i64 a2,.int .i64 a3,.int .i64 a4,.int .i64 a5,.int .i64 a6] 74)) 179 #[.slice none 0 0,.int .i64 c]).alloc (.cells #[.int .i64 0,.iface 175 (.pointer (some ⟨w.heap.size+1,0,none⟩)),.pointer none] 109);simp only[World.size_alloc] at b;exact b.drew
   ·exact ((((Below.refl w.heap.size w).alloc (aN) _).alloc (by simp) _).alloc (by simp;omega) _).drew
 ·have d:(decide (1≤c)&&decide (c≤1048576))=false:=by simp[h1]
  have HD:=ah d;have h1':decide ((1:Int)≤c)=false:=by simpa using h1
  clear d h1;go_enter Tryz.func108,Tryz.ntmps108;go_wp2
  go_region
  all_goals
   go_wp2_with fail
   go_ret2
   refine ⟨w.heap.size+1+1,w.heap.size+1,by rw[HD.out];rfl,?_,?_,by omega,by omega,by omega,?_⟩
   ·have b:=au.new ((w.alloc (.cells #[.int .i64 m,.int .i64 c,.int .i64 r,.int .i64 a0,.int .i64 a1,.int .i64 a2,.int .i64 a3,.int .i64 a4,.int .i64 a5,.int .i64 a6] 74)).alloc (.cells #[.slice none 0 0,.int .i64 c] 179)) 109 #[.int .i64 0,.iface 175 (.pointer (some ⟨w.heap.size+1,0,none⟩)),.pointer none];simp only[World.size_alloc] at b;exact b.drew
   ·have b:=(au.new (w.alloc (.cells #[.int .i64 m,.int .i64 c,.int .i64 r,.int .i64 a0,.int .i64 a1,.int .i64 a2,.int .i64 a3,.int .i64 a4,.int .i64 a5,.int .i64 a6] 74)) 179 #[.slice none 0 0,.int .i64 c]).alloc (.cells #[.int .i64 0,.iface 175 (.pointer (some ⟨w.heap.size+1,0,none⟩)),.pointer none] 109);simp only[World.size_alloc] at b;exact b.drew
   ·exact ((((Below.refl w.heap.size w).alloc (aN) _).alloc (by simp) _).alloc (by simp;omega) _).drew
theorem _root_.Go.Proofs.YtbhiklnljiehiaaGreat.au.VX {w:World} {g:Nat} {t:TypeId} {x0 x1 x2 x3 x4 x5 x6 x7 x8 x9:Value} (b:au w g t #[x0,x1,x2,x3,x4,x5,x6,x7,x8,x9]):w.cell? ⟨g,0,none⟩=some x0∧w.cell? ⟨g,1,none⟩=some x1∧w.cell? ⟨g,2,none⟩=some x2∧w.cell? ⟨g,3,none⟩=some x3∧w.cell? ⟨g,4,none⟩=some x4∧w.cell? ⟨g,5,none⟩=some x5∧w.cell? ⟨g,6,none⟩=some x6∧w.cell? ⟨g,7,none⟩=some x7∧w.cell? ⟨g,8,none⟩=some x8∧w.cell? ⟨g,9,none⟩=some x9:=
 ⟨b.cell 0,b.cell 1,b.cell 2,b.cell 3,b.cell 4,b.cell 5,b.cell 6,b.cell 7,b.cell 8,b.cell 9⟩
def VY (w:World) (m c:Int) (e:Ending) (w':World):Prop:=∃g t,e= .returned (.tuple #[.pointer (some ⟨g,0,none⟩),.int .i64 0])∧Zm w m c g t w'
set_option maxRecDepth 100000 in
set_option maxHeartbeats 1000000 in
theorem RO (c r a0 a1 a2 a3 a4 a5 a6:Int) (w:World) (h1:1≤c) (h2:c≤1048576):Calls Tryz.prog 31 #[.agg (cfg 1 c r a0 a1 a2 a3 a4 a5 a6)] w (VY w 1 c):=by
 have hm:=fun W=>RN 1 c r a0 a1 a2 a3 a4 a5 a6 W
 have d:(decide (1≤c)&&decide (c≤1048576))=true:=by simp[h1,h2]
 rw[d] at hm;have hget:=fun W:World=>Kz (W.alloc (.map Nw 3)).drew W.heap.size 1 (jC W _) 108 (.inl ⟨rfl,rfl⟩)
 unfold cfg at*;have HM:=ah hm;have b0:=au.new w 74 #[.int .i64 1,.int .i64 c,.int .i64 r,.int .i64 a0,.int .i64 a1,.int .i64 a2,.int .i64 a3,.int .i64 a4,.int .i64 a5,.int .i64 a6];have x0:=b0.VX.1;have hw0:=(Below.refl w.heap.size w).alloc (aN) (.cells #[.int .i64 1,.int .i64 c,.int .i64 r,.int .i64 a0,.int .i64 a1,.int .i64 a2,.int .i64 a3,.int .i64 a4,.int .i64 a5,.int .i64 a6] 74);have HB:=ah b0;have HW:=ah hw0;clear hm d b0 hw0;go_enter Tryz.func31,Tryz.ntmps31;go_wp2_with fail;generalize w.alloc (.cells #[.int .i64 1,.int .i64 c,.int .i64 r,.int .i64 a0,.int .i64 a1,.int .i64 a2,.int .i64 a3,.int .i64 a4,.int .i64 a5,.int .i64 a6] 74)=w0 at*;have hbl:w.heap.size<w0.drew.heap.size:=HB.out.lt
 go_region_held3 (fun w'=>w'.cell? ⟨w.heap.size,0,none⟩=some (.int .i64 1))
  (first|(exact (World.cell?_alloc_lt _ _ ⟨w.heap.size,0,none⟩ hbl).trans x0)|go_keep)
  ((go_at_call 65;refine (yO _).mono ?_;rintro e1 w1 ⟨rfl,rfl⟩))
 clear hget;have b1:=(HB.out.alloc (.map Nw 3)).drew;obtain ⟨y0,y1,y2,y3,y4,y5,y6,y7,y8,y9⟩:=b1.VX;have hW1:=(HW.out.alloc HW.out.size (.map Nw 3)).drew;have hl1:w.heap.size<w0.heap.size:=HB.out.lt;generalize (w0.alloc (.map Nw 3)).drew=w1 at*;go_wp2_with fail;refine (HM.out _).mono ?_;rintro e2 w2 ⟨g,t,rfl,hg,ht,hg1,ht1,hne,hb2⟩;have b2:=b1.below hb2 b1.lt;have hm0:=b2.VX.1;obtain ⟨g0,g1,g2⟩:w2.cell? ⟨g,0,none⟩=some (.int .i64 0)∧w2.cell? ⟨g,1,none⟩=some (.iface 175 (.pointer (some ⟨t,0,none⟩)))∧w2.cell? ⟨g,2,none⟩=some (.pointer none):=⟨hg.cell 0,hg.cell 1,hg.cell 2⟩;have f0:=hg.frozen 0;have HG:=ah hg;have HT:=ah ht;have HB2:=ah hb2;have hz:=hW1.size;have hgl:w.heap.size≤g:=by omega
 have htl:w.heap.size≤t:=by omega
 clear hg ht hb2 HM y0 y1 y2 y3 y4 y5 y6 y7 y8 y9 b1 b2;go_wp2
 go_ret2
 exact ⟨g,t,rfl,by simpa using HG.out.av 0 (.int .i64 1),HT.out.far (by simpa using fun e=>hne e.symm) _,hgl,htl,hne,(hW1.trans (HB2.out.mono hz)).setCell (p:=⟨g,0,none⟩) hgl _⟩
end Go.Proofs.YtbhiklnljiehiaaGreat.Tm
namespace Go.Proofs.YtbhiklnljiehiaaGreat.Tm
open Go.RowKit
attribute [local go_sem] Oper.semAt_some
theorem acG:Tryz.prog.underlying 37=some (.slice 31):=by kernel_rfl
theorem und51:Tryz.prog.underlying 31=some (.slice 5):=by kernel_rfl
structure wY (w:World) (base g t:Nat) (v:Value) (vs:List Value) (aK:List (List UInt8)) (cap:Nat):Prop where
 ent:au w g 109 #[.int .i64 1,.iface 175 (.pointer (some ⟨t,0,none⟩)),.pointer none]
 blk:au w t 179 #[v,.int .i64 cap]
 row:dR w base 31 v aK.length vs
 each:∀(i:Nat) (p:List UInt8),aK[i]? =some p→∃A c,vs[i]? =some (.slice A p.length c)∧w.ownsRow base 5 1 (.slice A p.length c) p.length (bO p)
theorem wY.EX {w:World} {base g t:Nat} {v:Value} {vs:List Value} {aK:List (List UInt8)} {cap:Nat} (h:wY w base g t v vs aK cap):∃A c,v= .slice A aK.length c∧iO w w.heap.size A aK.length c vs aK:=by
 obtain ⟨A,c,e,hs⟩:=h.row.sl;refine ⟨A,c,e,hs,rfl,fun i p hi=> ?_⟩;obtain ⟨A',c',h1,h2⟩:=h.each i p hi;exact ⟨A',c',h1,dH h2⟩
theorem wY.below {w w':World} {base g t B:Nat} {v:Value} {vs:List Value} {aK:List (List UInt8)} {cap:Nat} (h:wY w base g t v vs aK cap) (hb:Below B w w') (hB:w.heap.size≤B):wY w' base g t v vs aK cap:=
 ⟨h.ent.below hb (by have:=h.ent.lt;omega),h.blk.below hb (by have:=h.blk.lt;omega),h.row.below hb hB,fun i p hi=>let ⟨A,c,e,ho⟩:=h.each i p hi;⟨A,c,e,own_below ho hb hB⟩⟩
theorem wY.drewN {w:World} {base g t:Nat} {v:Value} {vs:List Value} {aK:List (List UInt8)} {cap:Nat} (h:wY w base g t v vs aK cap) (k:Nat):wY (w.drewN k) base g t v vs aK cap:=⟨h.ent,h.blk,h.row,h.each⟩
theorem wY.alloc {w:World} {base g t:Nat} {v:Value} {vs:List Value} {aK:List (List UInt8)} {cap:Nat} (h:wY w base g t v vs aK cap) (o:Obj):wY (w.alloc o) base g t v vs aK cap:=h.below ((Below.refl _ w).alloc (aN) o) (aN)
theorem BU (a:Addr) (w:World):(method 439 175 (.pointer (some a)) "userplane/rlc.buffered").run Tryz.prog w= .ok (246,.pointer (some a)) w:=by kernel_rfl
theorem Kj (a:Addr) (w:World):(method 439 175 (.pointer (some a)) "userplane/rlc.grant").run Tryz.prog w= .ok (248,.pointer (some a)) w:=by kernel_rfl
theorem Ii (a:Addr) (w:World):(method 439 175 (.pointer (some a)) "userplane/rlc.submit").run Tryz.prog w= .ok (250,.pointer (some a)) w:=by kernel_rfl
set_option maxHeartbeats 400000 in
theorem Kk (t:Nat) (x:Value) (A:Option Addr) (n c:Nat) (vs:List Value) (ps:List (List UInt8)) (w:World) (hb:au w t 179 #[.slice A n c,x]) (h:iO w w.heap.size A n c vs ps) (hsum:aj ps≤1152921504606846976):
 Calls Tryz.prog 252 #[.pointer (some ⟨t,0,none⟩)] w fun e w'=>e= .returned (.int .i64 (aj ps))∧w=w':=by
 have HL:=ah h.len;have pG:=ah hsum;have hn63:n≤9223372036854775807:=by have:=h.sl.cap;have:=h.sl.mx;omega
 have x0:=hb.cell 0;simp at x0;clear hsum;go_enter Tryz.func252,Tryz.ntmps252;go_wp2
 go_loop [3,11] (fun s i=>∃k:Nat,k≤n∧i= .int .i64 k∧s= .int .i64 (aj (ps.take k))) (fun _ i=>n-(intOf i).toNat)
 case atStart=>exact ⟨0,Nat.zero_le _,rfl,rfl⟩
 case round=>
  obtain ⟨k,hk,rfl,rfl⟩:=hrel;by_cases hlt:k<n
  ·obtain ⟨ad,Ai,ci,rfl,hb,hc,hsl⟩:=h.get hlt;have hs1:=fH ps k (by rw[HL.out];exact hlt);have hle1:=Nat.le_trans (bV ps (k+1)) pG.out;have hcap:=hsl.cap;have hmx:=hsl.mx;generalize ps[k]?.getD []=p at*;generalize aj (List.take k ps)=S at*;have hle2:S+p.length≤1152921504606846976:=by omega
   have HS:=ah hs1;clear hs1 hle1;go_wp2
   go_round
   case rel=>exact ⟨k+1,by omega,by go_num,by rw[HS.out];go_num⟩
   case measure=>simp[intOf];omega
  ·have e:ps.take k=ps:=List.take_of_length_le (by rw[HL.out];omega);rw[e];clear e;go_wp2;go_ret;exact ⟨rfl,rfl⟩
theorem BV (base g t:Nat) (v:Value) (vs:List Value) (aK:List (List UInt8)) (cap:Nat) (w:World) (h:wY w base g t v vs aK cap) (hsum:aj aK≤1152921504606846976):
 Calls Tryz.prog 246 #[.pointer (some ⟨t,0,none⟩)] w fun e w'=>e= .returned (.int .i64 (aj aK))∧w=w':=by
 obtain ⟨A,c,rfl,hs⟩:=h.EX;have hq:=Kk t _ A aK.length c vs aK w h.blk hs hsum;have x0:=h.blk.cell 0;simp at x0;have HQ:=ah hq;clear hq hs;go_enter Tryz.func246,Tryz.ntmps246;go_wp2_with (go_at_call 252;refine HQ.out.mono ?_;rintro e1 w1 ⟨rfl,rfl⟩);go_ret;exact ⟨rfl,rfl⟩
set_option maxRecDepth 100000 in
theorem BZ (base g t:Nat) (v:Value) (vs:List Value) (aK:List (List UInt8)) (cap:Nat) (w:World) (h:wY w base g t v vs aK cap) (hsum:aj aK≤1152921504606846976):
 Calls Tryz.prog 41 #[.pointer (some ⟨g,0,none⟩)] w fun e w'=>e= .returned (.int .i64 (aj aK))∧w=w':=by
 have hno:=jD g 1 _ _ w h.ent;have htb:=BV base g t v vs aK cap w h hsum;have x1:=h.ent.cell 1;simp at x1;have HN:=ah hno;have HTB:=ah htb;have hme:=BU ⟨t,0,none⟩;clear hno htb;go_enter Tryz.func41,Tryz.ntmps41;go_wp2_with (first|(go_at_call 66;refine HN.out.mono ?_;rintro e1 w1 ⟨rfl,rfl⟩)|(go_at_call 246;refine HTB.out.mono ?_;rintro e1 w1 ⟨rfl,rfl⟩));go_ret;exact ⟨rfl,rfl⟩
end Go.Proofs.YtbhiklnljiehiaaGreat.Tm
namespace Go.Proofs.YtbhiklnljiehiaaGreat.Tm
open Go.RowKit
attribute [local go_sem] Oper.semAt_some
theorem Ij (A:Option Addr) (n c:Nat) (w:World) (_hnc:n≤c) (_hc:c≤9223372036854775807):Calls Tryz.prog 253 #[.slice A n c] w fun e w'=>e= .returned (.bool (decide (0<n)&&decide (n≤9000)))∧w=w':=by
 by_cases h0:0<n
 ·have e1:(decide (0<n)&&decide (n≤9000))=decide ((n:Int)≤9000):=by rw[Bool.eq_iff_iff];simp[h0];omega
  rw[e1];clear e1;go_enter Tryz.func253,Tryz.ntmps253;go_wp2;go_ret;exact ⟨rfl,rfl⟩
 ·have e1:(decide (0<n)&&decide (n≤9000))=false:=by simp[h0]
  rw[e1];clear e1;go_enter Tryz.func253,Tryz.ntmps253;go_wp2;go_ret;exact ⟨rfl,rfl⟩
def MQ (g:Nat) (v:Value) (k:Nat) (_:Obj):Prop:=k=g∨aT v=some k
def Oh (w:World) (base g t:Nat) (v:Value) (cap:Nat) (aK:List (List UInt8)) (x:List UInt8) (w':World):Prop:=
 ∃v' vs',wY w' base g t v' vs' (aK++ [x]) cap∧Kept (MQ t v) w w'∧(∀k,aT v'=some k→aT v=some k∨w.heap.size≤k)
def agZ (x:Int) (w:World) (e:Ending) (w':World):Prop:=e= .returned (.int .i64 x)∧pY w w'
set_option maxHeartbeats 400000 in
theorem ES (base g t:Nat) (v:Value) (vs:List Value) (aK:List (List UInt8)) (cap:Nat) (A:Option Addr) (n c:Nat) (w:World) (h:wY w base g t v vs aK cap) (hn0:0<n) (hn:n≤9000) (hnm:n≤c) (hcm:c≤9223372036854775807) (hf:cap≤aK.length):
 Calls Tryz.prog 250 #[.pointer (some ⟨t,0,none⟩),.slice A n c] w (agZ 7 w):=by
 have hfi:=Ij A n c w hnm hcm;have e1:(decide (0<n)&&decide (n≤9000))=true:=by simp;omega
 rw[e1] at hfi;obtain ⟨Av,cv,rfl,hs⟩:=h.EX;have hc1:=hs.sl.cap;have hm1:=hs.sl.mx;obtain ⟨x0,x1⟩:w.cell? ⟨t,0,none⟩=some (.slice Av aK.length cv)∧w.cell? ⟨t,1,none⟩=some (.int .i64 cap):=⟨h.blk.cell 0,h.blk.cell 1⟩;have d:decide (cap≤aK.length)=true:=by simpa using hf
 have HF:=ah hfi;clear hfi e1 hs h;go_enter Tryz.func250,Tryz.ntmps250;go_wp2_with (go_at_call 253;refine HF.out.mono ?_;rintro e1 w1 ⟨rfl,rfl⟩)
 go_quiet (fail)
 go_wp2;go_ret;exact ⟨rfl,⟨_,rfl⟩⟩
set_option maxRecDepth 10000 in
set_option maxHeartbeats 1000000 in
theorem Kl (base g t:Nat) (v:Value) (vs:List Value) (aK:List (List UInt8)) (cap:Nat) (A:Option Addr) (n c:Nat) (x:List UInt8) (w:World) (h:wY w base g t v vs aK cap) (hgt:g≠t) (hx:Sl w w.heap.size A n c (bO x)) (hn0:0<n) (hn:n≤9000) (hf:aK.length<cap) (hsd:aK.length≤1000000) (hbase:base≤w.heap.size):
 Calls Tryz.prog 250 #[.pointer (some ⟨t,0,none⟩),.slice A n c] w fun e w'=>e= .returned (.int .i64 0)∧Oh w base g t v cap aK x w':=by
 obtain ⟨j0,hj0,hm0,hm1,hm2⟩:=info_parts nV;have hnm:=hx.cap;have hcm:=hx.mx;have hfi:=Ij A n c w hnm hcm;have e1:(decide (0<n)&&decide (n≤9000))=true:=by simp;omega
 rw[e1] at hfi;obtain ⟨Av,cv,rfl,hs⟩:=h.EX;have hc1:=hs.sl.cap;have V4:=hs.sl.mx;obtain ⟨x0,x1⟩:w.cell? ⟨t,0,none⟩=some (.slice Av aK.length cv)∧w.cell? ⟨t,1,none⟩=some (.int .i64 cap):=⟨h.blk.cell 0,h.blk.cell 1⟩;have d:decide (cap≤aK.length)=false:=by simpa using hf
 have HF:=ah hfi;have HH:=ah h;have HX:=ah hx;clear hfi e1 hs h hx;go_enter Tryz.func250,Tryz.ntmps250;go_wp2_with (go_at_call 253;refine HF.out.mono ?_;rintro e1 w1 ⟨rfl,rfl⟩)
 go_quiet (fail)
 have h:=HH.out.drewN nq;have hx:=HX.out.drewN nq;have hK0:Kept (MQ t (.slice Av aK.length cv)) w (w.drewN nq):=(Kept.refl _ w).drewN nq;have hsz0:(w.drewN nq).heap.size=w.heap.size:=(pY.size ⟨nq,rfl⟩);have hx':Sl (w.drewN nq) (w.drewN nq).heap.size A n c (bO x):=by rw[hsz0];exact hx
 have hbase':base≤(w.drewN nq).heap.size:=by rw[hsz0];exact hbase
 have ME:(w.drewN nq).cell? ⟨t,0,none⟩=some (.slice Av aK.length cv):=x0;generalize w.drewN nq=W at*;have Bz:=ah hsz0;have YS:=ah hK0;have hcl:=ji A n c x W.drew hx'.drew (by omega);have pV:=ah hcl;have hgl:=h.blk.lt;have f0:=h.blk.frozen 0;clear hcl HF HH HX x0 x1 hx hsz0 hK0;go_wp2_with fail
 go_region_law (first
  |((refine qZ (by rfl) _ _ 37 (by rfl) j0 (.slice none 0 0) 24 acG hj0 hm0 hm1 hm2 rfl (by rfl) ((h.row.drew.below hb1 (aN)).alloc (.cells #[.slice A1 n c1] 31)) ⟨w1.heap.size,0,none⟩ 1 (.slice A1 n c1) (by rfl) (World.news_of_block (heap_alloc_new w1 _) 0 _ rfl) rfl (by unfold maxLen;omega) (by omega) (by simp;have:=hb1.size;simp at this;omega) ?_;intro v5 w5 hown5 bR SE;obtain ⟨A5,c5,rfl,hs5⟩:=hown5.sl;have tH:=((h.blk.drew.below hb1 h.blk.lt).alloc (.cells #[.slice A1 n c1] 31)).grown bR (fun e=>((h.row.drew.below hb1 (aN)).alloc (.cells #[.slice A1 n c1] 31)).pM ((h.blk.drew.below hb1 h.blk.lt).alloc (.cells #[.slice A1 n c1] 31)) (by decide) e.symm);have Nh:=((h.ent.drew.below hb1 h.ent.lt).alloc (.cells #[.slice A1 n c1] 31)).grown bR (fun e=>((h.row.drew.below hb1 (aN)).alloc (.cells #[.slice A1 n c1] 31)).pM ((h.ent.drew.below hb1 h.ent.lt).alloc (.cells #[.slice A1 n c1] 31)) (by decide) e.symm);have q2:=tH.cell 0;have q3:=tH.frozen 0;simp at q2))
  |((go_simp;(with_reducible refine pV.out.mono ?_);rintro e1 w1 ⟨v1,rfl,hv1,hb1⟩;obtain ⟨A1,c1,rfl,hs1,_⟩:=bq hv1;have y0':=(hb1.cell (p:=⟨t,0,none⟩) hgl).trans ME;have PS:t<w1.heap.size:=Nat.lt_of_lt_of_le hgl hb1.size;have anD:=(World.cell?_alloc_lt w1 (.cells #[.slice A1 n c1] 31) ⟨t,0,none⟩ PS).trans y0';have f0':=(hb1.frozen (p:=⟨t,0,none⟩) hgl).trans f0)))
 all_goals
  have hb1':Below W.heap.size W w1:=((Below.refl W.heap.size W).drew).trans hb1;have hz1:=hb1'.size;have Wt:=tH.av 0 (.slice A5 (aK.length+1) c5);simp at Wt;have hE6:=Nh.far (p:=⟨t,0,none⟩) hgt (.slice A5 (aK.length+1) c5);have hQ6:=hown5.store (i:=0) tH (by decide) (.slice A5 (aK.length+1) c5);have ag0:Kept (MQ t (.slice Av aK.length cv)) w w1:=YS.out.trans ((Kept.of_below hb1').fE (fun k o ho hm=>by have:=lt_of_heap ho;omega));have acH:=(h.row.below hb1' (aN)).alloc (.cells #[.slice A1 n c1] 31);have KF:=(ag0.alloc (.cells #[.slice A1 n c1] 31)).grown bR (fun k hk o ho=> .inr hk);have QX:Kept (MQ t (.slice Av aK.length cv)) w (w5.setCell ⟨t,0,none⟩ (.slice A5 (aK.length+1) c5)):=KF.setCell (p:=⟨t,0,none⟩) (fun _ _=> .inl rfl) _;have US:∀k,aT (.slice A5 (aK.length+1) c5)=some k→aT (.slice Av aK.length cv)=some k∨w.heap.size≤k:=fun k hk=>(SE k hk).imp id (fun h=>by have:=Bz.out;simp at h;omega)
  have hne5:∀{m:Nat} {v':Value} {ys:List Value},(w1.alloc (.cells #[.slice A1 n c1] 31)).ownsRow base 5 1 v' m ys→(w5.setCell ⟨t,0,none⟩ (.slice A5 (aK.length+1) c5)).ownsRow base 5 1 v' m ys:=fun {m v' ys} ho=>by
   refine aI (i:=0) (ho.kept bR ?_) tH (by decide) _;rcases hvb:v'.ownBlock with _|j
   ·exact .inl rfl
   ·refine .inr (fun e=> ?_);obtain ⟨o2,ho2,⟨cs2,Yu,rfl⟩,_⟩:=bU ho hvb;obtain ⟨cur,hh,_⟩:=acH.row e.symm;rw[hh] at ho2;cases ho2
  go_wp2_with fail;go_ret;refine ⟨rfl,_,_,⟨hE6,Wt,by simpa using hQ6,fun i p hi=> ?_⟩,QX,US⟩;rcases Nat.lt_or_ge i aK.length with hlt|hge
  ·rw[List.getElem?_append_left hlt] at hi;obtain ⟨A',c',k1,k2⟩:=h.each i p hi;exact ⟨A',c',by rw[List.getElem?_append_left (by rw[h.row.1];exact hlt)];exact k1,hne5 ((own_below k2 hb1' (aN)).alloc _)⟩
  ·have hi0:i=aK.length:=by
    have:=(List.getElem?_eq_some_iff.1 hi).1;simp at this;omega
   subst hi0;simp at hi;subst hi;have hxl:x.length=n:=by simpa using hx'.len
   subst hxl;exact ⟨A1,c1,by rw[←h.row.1];simp,hne5 ((aU hv1 hbase').alloc _)⟩
end Go.Proofs.YtbhiklnljiehiaaGreat.Tm
namespace Go.Proofs.YtbhiklnljiehiaaGreat.Tm
open Go.RowKit
attribute [local go_sem] Oper.semAt_some
theorem AB (base g t:Nat) (v:Value) (vs:List Value) (aK:List (List UInt8)) (cap:Nat) (A:Option Addr) (n c:Nat) (w:World) (h:wY w base g t v vs aK cap) (k:Int) (Q:World→Prop)
 (hc:Calls Tryz.prog 250 #[.pointer (some ⟨t,0,none⟩),.slice A n c] w fun e w'=>e= .returned (.int .i64 k)∧Q w'):
 Calls Tryz.prog 32 #[.pointer (some ⟨g,0,none⟩),.slice A n c] w fun e w'=>e= .returned (.int .i64 k)∧Q w':=by
 have hno:=jD g 1 _ _ w h.ent;have x1:=h.ent.cell 1;simp at x1;have HN:=ah hno;have HC:=ah hc;have hme:=Ii ⟨t,0,none⟩;clear hno hc h;go_enter Tryz.func32,Tryz.ntmps32;go_wp2_with (first|(go_at_call 66;refine HN.out.mono ?_;rintro e1 w1 ⟨rfl,rfl⟩)|(go_at_call 250;refine HC.out.mono ?_;rintro e1 w1 ⟨rfl,hq⟩));go_ret;exact ⟨rfl,hq⟩
def Lj (w:World) (e:Ending) (w':World):Prop:=e= .returned (.tuple #[.slice none 0 0,.int .i64 0])∧w=w'
def Ik (w:World) (base g t:Nat) (v:Value) (cap:Nat) (x:List UInt8) (rest:List (List UInt8)) (e:Ending) (w':World):Prop:=
 ∃A c v' vs',e= .returned (.tuple #[.slice A x.length c,.int .i64 0])∧w'.ownsRow base 5 1 (.slice A x.length c) x.length (bO x)∧wY w' base g t v' vs' rest cap∧aT v'=aT v∧Kept (fun k _=>k=t) w w'
theorem Il (base g t:Nat) (v:Value) (vs:List Value) (cap:Nat) (x:List UInt8) (rest:List (List UInt8)) (now n:Int) (w:World) (h:wY w base g t v vs (x::rest) cap) (hn:n<x.length):
 Calls Tryz.prog 248 #[.pointer (some ⟨t,0,none⟩),.int .i64 now,.int .i64 n] w (Lj w):=by
 obtain ⟨A,c,rfl,hs⟩:=h.EX;have hcap:=hs.sl.cap;have hmx:=hs.sl.mx;obtain ⟨ad,Ai,ci,rfl,had,hc,hsl⟩:=hs.get (k:=0) (by simp);simp at hc hsl;have hc':w.cell? ad=some (.slice Ai x.length ci):=by simpa[Addr.add] using hc
 have hci:=hsl.cap;have hmi:=hsl.mx;have x0:=h.blk.cell 0;simp at x0 hcap;have hL1:((rest.length:Int)+1==0)=false:=by simp;omega
 have hn':decide (n<(x.length:Int))=true:=by simp;omega
 clear hs h hsl;go_enter Tryz.func248,Tryz.ntmps248;go_wp2
 go_ret2
 exact ⟨rfl,rfl⟩
set_option maxRecDepth 10000 in
set_option maxHeartbeats 1000000 in
theorem Np (base g t:Nat) (v:Value) (vs:List Value) (cap:Nat) (x:List UInt8) (rest:List (List UInt8)) (now n:Int) (w:World) (h:wY w base g t v vs (x::rest) cap) (hgt:g≠t) (hn:x.length≤n):
 Calls Tryz.prog 248 #[.pointer (some ⟨t,0,none⟩),.int .i64 now,.int .i64 n] w (Ik w base g t v cap x rest):=by
 obtain ⟨hlen,hrow⟩:=h.row;rcases hrow with ⟨_,h0⟩|⟨gq,o,cq,cur,rfl,hbg,hh,hnc,hcm,hcs,htk⟩
 ·simp at h0
 obtain ⟨v0,vs',rfl⟩:∃v0 vs',vs=v0::vs':=by
  cases vs with
  |nil=>simp at hlen
  |cons a b=>exact ⟨a,b,rfl⟩
 obtain ⟨Ax,cx,hv0,hox⟩:=h.each 0 x rfl;have hsx:=dH hox;have hcap:=hsx.cap;have hmx:=hsx.mx;have hc0:=h.row.cells 0 _ hv0;simp only[Nat.add_zero] at hc0;obtain ⟨x0,x1⟩:w.cell? ⟨t,0,none⟩=some (.slice (some ⟨gq,o,none⟩) (x::rest).length cq)∧w.cell? ⟨t,1,none⟩=some (.int .i64 cap):=⟨h.blk.cell 0,h.blk.cell 1⟩;have f0:=h.blk.frozen 0;have htail:=dR.tail (n:=rest.length) (by simpa using h.row);have hgl:=h.blk.lt;unfold maxLen at hcm;obtain ⟨vt,NM⟩:∃vt,vt=Value.slice (some (if cq=1 then (⟨gq,o,none⟩:Addr) else ⟨gq,o+1,none⟩)) rest.length (cq-1):=⟨_,rfl⟩
 rw[←NM] at htail;have b1:=h.blk.av 0 vt;simp at b1;have t1:=htail.store (i:=0) h.blk (by decide) vt;have e1:=h.ent.far (p:=⟨t,0,none⟩) hgt vt;have QJ:∀{m:Nat} {v':Value} {ys:List Value},w.ownsRow base 5 1 v' m ys→(w.setCell ⟨t,0,none⟩ vt).ownsRow base 5 1 v' m ys:=fun ho=>aI (i:=0) ho h.blk (by decide) _
 have hent:wY (w.setCell ⟨t,0,none⟩ vt) base g t vt vs' rest cap:=
  ⟨e1,b1,t1,fun i p hi=>let ⟨A',c',k1,k2⟩:=h.each (i+1) p (by simpa using hi);⟨A',c',by simpa using k1,QJ k2⟩⟩
 have hk1:Kept (fun k _=>k=t) w (w.setCell ⟨t,0,none⟩ vt):=(Kept.refl _ w).setCell (p:=⟨t,0,none⟩) (fun _ _=>rfl) _;have HS:=ah (QJ hox);have HE:=ah hent;have HK:=ah hk1;have hL1:((rest.length:Int)+1==0)=false:=by simp;omega
 have hn':decide (n<(x.length:Int))=false:=by simp;omega
 clear htk hh hcs hlen hv0 hox hsx h b1 t1 e1 QJ hent hk1 htail;by_cases hq:cq=1
 ·rw[if_pos hq] at NM;subst NM hq;go_enter Tryz.func248,Tryz.ntmps248;go_wp2
  go_ret2
  exact ⟨_,_,_,_,rfl,HS.out,HE.out,rfl,HK.out⟩
 ·rw[if_neg hq] at NM;subst NM;go_enter Tryz.func248,Tryz.ntmps248;go_wp2
  go_ret2
  exact ⟨_,_,_,_,rfl,HS.out,HE.out,rfl,HK.out⟩
theorem Dr (base g t:Nat) (v:Value) (vs:List Value) (aK:List (List UInt8)) (cap:Nat) (now n:Int) (w:World) (h:wY w base g t v vs aK cap) (Q:Ending→World→Prop) (hQ:∀e w',Q e w'→∃b x,e= .returned (.tuple #[b,x]))
 (hc:Calls Tryz.prog 248 #[.pointer (some ⟨t,0,none⟩),.int .i64 now,.int .i64 n] w Q):
 Calls Tryz.prog 33 #[.pointer (some ⟨g,0,none⟩),.int .i64 now,.int .i64 n] w Q:=by
 have hno:=jD g 1 _ _ w h.ent;have x1:=h.ent.cell 1;simp at x1;have HN:=ah hno;have HC:=ah (hc.mono fun e w' hq=>(⟨hQ e w' hq,hq⟩:(∃b x,e= .returned (.tuple #[b,x]))∧Q e w'));have hme:=Kj ⟨t,0,none⟩;clear hno hc h hQ;go_enter Tryz.func33,Tryz.ntmps33;go_wp2_with (first|(go_at_call 66;refine HN.out.mono ?_;rintro e1 w1 ⟨rfl,rfl⟩)|(go_at_call 248;refine HC.out.mono ?_;rintro e1 w1 ⟨⟨b,x,rfl⟩,hq⟩));exact hq
end Go.Proofs.YtbhiklnljiehiaaGreat.Tm
namespace Go.Proofs.YtbhiklnljiehiaaGreat.Tm
open Go.RowKit
attribute [local go_sem] Oper.semAt_some
def Vz (W:World) (base g t:Nat) (aK:List (List UInt8)) (cap:Nat) (u:Value) (e:Ending) (w':World):Prop:=
 e= .returned u∧∃v vs,wY w' base g t v vs aK cap∧Below base W w'
theorem wZ (W:World) (base g t:Nat) (v:Value) (vs:List Value) (aK:List (List UInt8)) (cap:Nat) (h:wY W base g t v vs aK cap) (hbg:base≤t) (hgt:g≠t) (x:List UInt8) (cs:Array Value) (fr:Nat × Nat) (hcs:cs.toList=bO x) (m:Nat) (hm:m=x.length)
 (hx0:0<x.length) (Xl:x.length≤9000) (hf:aK.length<cap) (hsd:aK.length≤1000000):
 Calls Tryz.prog 32 #[.pointer (some ⟨g,0,none⟩),.slice (some ⟨W.heap.size,0,none⟩) m m] (W.alloc (.cells cs 5 fr)) (Vz W base g t (aK++ [x]) cap (.int .i64 0)):=by
 subst hm;have hbW:base≤W.heap.size:=by have:=h.blk.lt;omega
 have hs:Sl (W.alloc (.cells cs 5 fr)) (W.alloc (.cells cs 5 fr)).heap.size (some ⟨W.heap.size,0,none⟩) (bO x).length (bO x).length (bO x):=vB (jC W _) hcs (by simp;omega);rw[ja] at hs;refine (AB base g t v vs aK cap _ x.length x.length _ (h.alloc _) 0 _ (Kl base g t v vs aK cap _ x.length x.length x _ (h.alloc _) hgt hs hx0 Xl hf hsd (by simp;omega))).mono ?_;rintro e w' ⟨rfl,v',vs',hs',hk',_⟩;refine ⟨rfl,v',vs',hs',((Below.refl base W).alloc hbW _).trans (hk'.below (B:=base) ?_ (by simp;omega))⟩;rintro k o (rfl|hk)
 ·exact hbg
 ·exact (h.row.lt hk).1
theorem Ca (W:World) (base g t:Nat) (v:Value) (vs:List Value) (aK:List (List UInt8)) (cap:Nat) (h:wY W base g t v vs aK cap) (hbg:base≤t) (x:List UInt8) (cs:Array Value) (fr:Nat × Nat) (_hcs:cs.toList=bO x) (m:Nat) (hm:m=x.length)
 (hx0:0<x.length) (Xl:x.length≤9000) (hf:cap≤aK.length):
 Calls Tryz.prog 32 #[.pointer (some ⟨g,0,none⟩),.slice (some ⟨W.heap.size,0,none⟩) m m] (W.alloc (.cells cs 5 fr)) (Vz W base g t aK cap (.int .i64 7)):=by
 subst hm;have hbW:base≤W.heap.size:=by have:=h.blk.lt;omega
 refine (AB base g t v vs aK cap _ x.length x.length _ (h.alloc _) 7 _ (ES base g t v vs aK cap _ x.length x.length _ (h.alloc _) hx0 Xl (aN) (by omega) hf)).mono ?_;rintro e w' ⟨rfl,q,rfl⟩;exact ⟨rfl,v,vs,(h.alloc _).drewN q,((Below.refl base W).alloc hbW _).drewN q⟩
theorem Im {w:World}:∀e w',Lj w e w'→∃b x,e= .returned (.tuple #[b,x]):=fun _ _ h=>⟨_,_,h.1⟩
theorem ET {w:World} {base g t:Nat} {v:Value} {cap:Nat} {x:List UInt8} {rest:List (List UInt8)}:∀e w',Ik w base g t v cap x rest e w'→∃b y,e= .returned (.tuple #[b,y]):=fun _ _ ⟨_,_,_,_,h,_⟩=>⟨_,_,h⟩
set_option maxRecDepth 10000 in
set_option maxHeartbeats 1000000 in
theorem wC (w:World):Calls Tryz.prog 30 #[] w (Og w):=by
 have hne:=RO 2 0 0 0 0 0 0 0 0 w (by omega) (by omega);unfold cfg at hne;have kc:=fun (w:World) (C:Array Value) (n c:Nat)=>Lib.run_convert_bytes_const (P:=Tryz.prog) w 31 5 C n c und51 und5
 have HNE:=ah hne;clear hne;go_enter Tryz.func30,Tryz.ntmps30;go_wp2_with fail;refine HNE.out.mono ?_;rintro e1 w1 ⟨g,t,rfl,hg1,ht1,hgl,htl,hgt,hb1⟩;have h1:wY w1 w.heap.size g t (.slice none 0 0) [] [] 2:=⟨hg1,ht1,yw _ _ _,fun i p hi=>by simp at hi⟩;obtain ⟨B,hB⟩:∃B,B=w.heap.size:=⟨_,rfl⟩
 rw[←hB] at h1 htl hb1;have HB:=ah hB;clear hB hg1 ht1 hgl;go_wp2_with fail;refine (wZ w1 B g t _ _ [] 2 h1 htl hgt [97,98,99] _ _ rfl 3 rfl (by decide) (by decide) (by decide) (by decide)).mono ?_;rintro e2 w2 ⟨rfl,v2,vs2,h2,hb2⟩;go_wp2_with fail;refine (wZ w2 B g t _ _ [[97,98,99]] 2 h2 htl hgt [100] _ _ rfl 1 rfl (by decide) (by decide) (by decide) (by decide)).mono ?_;rintro e3 w3 ⟨rfl,v3,vs3,h3,hb3⟩;go_wp2_with fail;refine (Ca w3 B g t _ _ [[97,98,99],[100]] 2 h3 htl [101] _ _ rfl 1 rfl (by decide) (by decide) (by decide)).mono ?_;rintro e4 w4 ⟨rfl,v4,vs4,h4,hb4⟩;go_wp2_with fail;refine (Dr B g t _ _ _ 2 0 2 w4 h4 _ Im (Il B g t _ _ 2 [97,98,99] [[100]] 0 2 w4 h4 (by decide))).mono ?_;rintro e5 w5 ⟨rfl,rfl⟩;go_wp2_with fail;refine (Dr B g t _ _ _ 2 0 3 w4 h4 _ ET (Np B g t _ _ 2 [97,98,99] [[100]] 0 3 w4 h4 hgt (by decide))).mono ?_;rintro e6 w6 ⟨A6,c6,v6,vs6,rfl,ho6,h6,_,lg⟩;have hb6:Below B w4 w6:=lg.below (fun k o e=>by omega) (by have:=h4.blk.lt;omega);have kc6:(convert 31 9 (.slice A6 3 c6)).run Tryz.prog w6= .ok (.string ⟨#[97,98,99]⟩) w6:=tT (dH ho6);have hbf:=BZ B g t v6 vs6 [[100]] 2 w6 h6 (by decide);have HBF:=ah hbf;have yV:=ah (((((hb1.trans hb2).trans hb3).trans hb4)).trans hb6);clear h1 h2 h3 h4 h6 hb1 hb2 hb3 hb4 hb6 lg ho6 hbf kc;go_wp2_with (go_at_call 41;refine HBF.out.mono ?_;rintro e1 w1 ⟨rfl,rfl⟩);go_ret;refine ⟨rfl,?_⟩;rw[←HB.out];exact yV.out
end Go.Proofs.YtbhiklnljiehiaaGreat.Tm
namespace Go.Proofs.YtbhiklnljiehiaaGreat
section
open Go.RowKit Go.Shelf
attribute [local go_sem] Oper.semAt_some
theorem dZ.mono {c:Cf} {s:Sd} {K K':Nat} (h:dZ c s K) (hk:K≤K'):dZ c s K':=⟨h.cf,h.inv,h.bnd.mono hk⟩
theorem Ki {c:Cf} {s:Sd} {r:Rc} {K:Nat} (ho:dZ c s K) (hr:uU c r) {now:Int} (hn:now≤9223372036854775807) (n:Int):dZ c (dK c s r now n).1 (K+6)∧uU c (dK c s r now n).2.1:=by
 have ht:=ho.tick now hn;unfold dK;split
 ·exact ⟨ho.mono (by omega),hr⟩
 split
 ·exact ⟨ho.mono (by omega),hr⟩
 split
 ·exact ⟨ht.mono (by omega),hr⟩
 split
 ·exact ⟨ht.mono (by omega),(hr.goes hn).ny hn n⟩
 ·exact ⟨(ht.ny now n hn).mono (by omega),hr.goes hn⟩
theorem Nl {c:Cf} {s:Sd} {r:Rc} {K:Nat} (ho:dZ c s K) (hr:uU c r) {now:Int} (hn:now≤9223372036854775807) (x:List UInt8):dZ c (dX c s r now x).1 (K+3)∧uU c (dX c s r now x).2.1:=by
 unfold dX;split
 ·exact ⟨ho.mono (by omega),hr⟩
 split
 ·split
  ·exact ⟨ho.mono (by omega),hr⟩
  ·exact ⟨ho.status now _ _ hn,hr⟩
 ·exact ⟨ho.mono (by omega),hr.recv hn x⟩
theorem Nn {a0 a1 a2 a3 a4 a5 a6:Int} (h:dF a0 a1 a2 a3 a4 a5 a6=true):YZ (nL a0 a1 a2 a3 a4 a5 a6):=by
 unfold dF at h;simp only[Bool.and_eq_true] at h;obtain ⟨_,_,_,h4,_,_⟩:=h;have q3:=jg h4 a3 (by simp);have q4:=jg h4 a4 (by simp);exact ⟨q3.1,q3.2,q4.1,q4.2⟩
theorem QI {a0 a1 a2 a3 a4 a5 a6:Int} (h:dF a0 a1 a2 a3 a4 a5 a6=true):dZ (nL a0 a1 a2 a3 a4 a5 a6) dY 0:=⟨GI h,o8.new,jF.new⟩
theorem Uo {a0 a1 a2 a3 a4 a5 a6:Int} (h:dF a0 a1 a2 a3 a4 a5 a6=true):uU (nL a0 a1 a2 a3 a4 a5 a6) lM:=⟨Nn h,Hl.1,Hl.2⟩
def kc:Cf:=nL 0 0 10 0 0 1 1000
def k1:Sd:=(dw kc dY [104,105]).1
def k2:Sd × Rc × List UInt8 × Int:=dK kc k1 lM 0 9
def k3:Sd × Rc × List (List UInt8) × Int:=dX kc dY lM 0 [160,0,104,105]
def k5:Sd × Rc × List UInt8 × Int:=dK kc k3.1 k3.2.1 0 9
def k6:Sd × Rc × List (List UInt8) × Int:=dX kc k2.1 k2.2.1 0 [0,4]
def k7:Sd × Rc × List (List UInt8) × Int:=dX kc k6.1 k6.2.1 0 []
def k8:Sd × Rc × List (List UInt8) × Int:=dX kc k7.1 k7.2.1 0 [128]
def k9:Sd × Rc × List (List UInt8) × Int:=dX kc k8.1 k8.2.1 0 [0,20]
end
end Go.Proofs.YtbhiklnljiehiaaGreat
