/- Plain mathematics: decoding undoes encod. -/
import Derived.Test.YtbhiklnljiehiaaGreatM3af
import Derived.Test.YtbhiklnljiehiaaGreatM3ag
import Derived.Test.YtbhiklnljiehiaaGreatM3ah
import Derived.Deep.RegionLaw
import Derived.Deep.CutBlock
set_option maxHeartbeats 2000000
set_option maxRecDepth 100000
namespace Go.Proofs.YtbhiklnljiehiaaGreat
open RowKit Shelf Tryz
attribute [local go_sem] Oper.semAt_some
theorem iC (a b c:List Bool) (d:List UInt8) (p k:Nat) (hp:a.length=p) (hk:b.length=k):ax (pack (a++(b++c))++d) p k=b:=by
 subst hp hk;rw[LW _ _ _ _ (by simp),List.drop_left,List.take_left]
def lb:List Nat->List Bool
 | []=> []
 |n::l=>(bitsOf (decide (0<l.length)).toNat 1++bitsOf n 11)++lb l
theorem I4:∀l,(lb l).length=12*l.length
 | []=>rfl
 |n::l=>by simp[lb,I4 l];omega
theorem zZ (c:List Bool) (d:List UInt8):∀(l:List Nat) (a:List Bool) (f:Nat) (acc:List Nat),(∀n∈l,1<=n/\n<=2047)->l.length<f->acc.length+l.length<=63->
 gT (pack (a++(lb l++c))++d) f (decide (0<l.length)) a.length acc= .inr (acc++l,a.length+12*l.length)
 | [],a,f,acc,_,_,_=>by simp[gT]
 |n::l,a,f,acc,hl,hf,hacc=>by
  obtain ⟨f,rfl⟩:∃g,f=g+1:=⟨f-1,by simp at hf;omega⟩
  have hn:=hl n (by simp);have e:a++(lb (n::l)++c)=a++((bitsOf (decide (0<l.length)).toNat 1++bitsOf n 11)++(lb l++c)):=by simp[lb]
  have hv:=iC a (bitsOf (decide (0<l.length)).toNat 1++bitsOf n 11) (lb l++c) d a.length 12 rfl (by simp);have hval:val (bitsOf (decide (0<l.length)).toNat 1++bitsOf n 11)=(decide (0<l.length)).toNat*2048+n:=by
   rw[val_append,iB 11 n (by omega),iB 1 _ (by cases decide (0<l.length)<;>simp)];simp
  have ih:=zZ c d l (a++(bitsOf (decide (0<l.length)).toNat 1++bitsOf n 11)) f (acc++ [n]) (fun m hm=>hl m (by simp[hm])) (by simp at hf;omega) (by simp at hacc ⊢;omega);rw[e];have hlen:a.length+12<=8*(pack (a++((bitsOf (decide (0<l.length)).toNat 1++bitsOf n 11)++(lb l++c)))++d).length:=by
   simp[bI];omega
  simp only[jh,show decide (0<l.length+1)=true by simp,gT];rw[aP (by omega),hv,hval,aP (by simp at hacc;omega)];rw[show ((decide (0<l.length)).toNat*2048+n)%2048=n by omega,show decide (((decide (0<l.length)).toNat*2048+n)/2048=1)=decide (0<l.length) by
   rw[show ((decide (0<l.length)).toNat*2048+n)/2048=(decide (0<l.length)).toNat by omega];cases decide (0<l.length)<;>simp]
  simp only[oJ] at ih ⊢;rw[show (a++(bitsOf (decide (0<l.length)).toNat 1++bitsOf n 11)).length=a.length+12 by simp] at ih;rw[ih];simp;omega
theorem OQ (ps:List (List UInt8)):fE ps (ps.length-1)=lb ((ps.take (ps.length-1)).map List.length):=by
 have key:∀j i,i+j=ps.length-1->((List.range' i j).flatMap fun i=>aC (mF ps i))=lb (((ps.drop i).take j).map List.length):=by
  intro j
  induction j with
  |zero=>intro i _;simp[lb]
  |succ j ih=>
   intro i hi;have hlt:i<ps.length:=by omega
   rw[List.range'_succ,List.flatMap_cons,ih (i+1) (by omega),List.drop_eq_getElem_cons hlt,kJ,vw,lb]
   congr 1
   have h1:aC (mF ps i)=bitsOf (decide (i+2<ps.length)).toNat 1++bitsOf (ps[i]?.getD []).length 11:=by simp[aC,mF]
   rw[h1,gX hlt,Cy]
   congr 4
   simp;omega
 have:=key (ps.length-1) 0 (by omega);rw[ny,<-List.range_eq_range'] at this;exact this
theorem Aa:∀(l:List (List UInt8)) (x:List UInt8),splitBy (l.map List.length) (l.flatten++x)=l++ [x]
 | [],x=>by simp[splitBy]
 |p::l,x=>by simp[splitBy,Aa l x]
theorem xq (b:Bool):val (bitsOf b.toNat 1)=b.toNat:=iB 1 _ (by cases b<;>simp)
theorem OT {ps:List (List UInt8)} (h:1<=ps.length):∃l x,ps=l++ [x]:=by
 have hne:ps≠ []:=by intro e;simp[e] at h
 exact ⟨ps.dropLast,ps.getLast hne,(List.dropLast_concat_getLast hne).symm⟩
theorem Ab (bs:List UInt8):∀(f:Nat) (more:Bool) (pos:Nat) (acc:List Nat) (er:Nat),gT bs f more pos acc= .inl er->er≠0
 |_,false,pos,acc,er,h=>by simp[gT] at h
 |0,true,_,_,er,h=>by simp[gT] at h;omega
 |f+1,true,pos,acc,er,h=>by
  simp only[gT] at h;split at h
  ·cases h;omega
  ·split at h
   ·cases h;omega
   ·exact Ab bs f _ _ _ er h
theorem OU {l:List (List UInt8)} {x:List UInt8} (hv:qh (l++ [x])):l.length<=63/\∀p∈l,1<=p.length/\p.length<=2047:=by
 refine ⟨by have:=hv.hi;simp at this;omega,fun p hp=>⟨hv.pos p (by simp[hp]),?_⟩⟩;obtain ⟨i,hi,rfl⟩:=List.getElem_of_mem hp;have:=hv.short i (by simp;omega);rw[mh hi,gX hi] at this;exact this
theorem Sl.afk {w:World} {B:Nat} {A:Option Addr} {n c k:Nat} {xs:List Value} (h:Sl w B A n c xs) (hk:k<=n):Sl w B A k c (xs.take k):=by
 have hl:=h.len;refine ⟨by simp;omega,by have:=h.cap;omega,h.mx,fun hp=> ?_⟩;obtain ⟨ad,e,hb,hc⟩:=h.at_ (by omega);refine ⟨ad,e,hb,fun j u hu=>hc j u ?_⟩;rw[pW] at hu;split at hu
 ·exact hu
 ·cases hu
theorem gK {w:World} {base:Nat} {e:TypeId} {A:Option Addr} {c n:Nat} {xs:List Value} (h:w.ownsRow base e 1 (.slice A n c) n xs):Sl w w A n c xs:=by
 obtain ⟨A',c',he,hs,_⟩:=aY h;cases he;exact hs
theorem aN {w:World} {base:Nat} {e t:TypeId} {v:Value} {n g i:Nat} {xs:List Value} {cs:Array Value} (h:w.ownsRow base e 1 v n xs) (hg:av w g t cs) (hne:e≠t) (u:Value):(w.setCell ⟨g,i,none⟩ u).ownsRow base e 1 v n xs:=
 h.kept (aR w g i u) (.inr (aK h hg hne))
theorem Sl.mid {w:World} {B n c a m:Nat} {A:Option Addr} {xs:List Value} (h:Sl w B A n c xs) (hm:a+m<=n):Sl w B (if c=a then A else A.map (·.add a)) m (c-a) ((xs.drop a).take m):=by
 have h1:=h.cut (k:=a) (by omega);exact h1.afk (k:=m) (by omega)
theorem pG (W:World) (x:Value) (t:TypeId):Sl (W.alloc (.cells #[x] t)).drew (W.alloc (.cells #[x] t)).heap.size (some ⟨W,0,none⟩) 1 1 [x]:=
 (BK (xs:= [x]) (sN W (.cells #[x] t)) rfl (by simp)).drew
def xJ (off:Nat) (ps:List (List UInt8)) (k:Nat):List Nat:=(List.range (k+1)).map fun i=>off+aj (ps.take i)
theorem RF (off:Nat) (ps:List (List UInt8)) (k:Nat):xJ off ps (k+1)=xJ off ps k++ [off+aj (ps.take (k+1))]:=by simp[xJ,List.range_succ]
theorem EZ (off:Nat) (ps:List (List UInt8)) (k i:Nat) (h:i<=k):(xJ off ps k)[i]? =some (off+aj (ps.take i)):=by
 simp[xJ,show i<k+1 by omega]
def Mh (w:World) (off:Nat) (ps:List (List UInt8)) (e:Ending) (w':World):Prop:=
 ∃g v,e= .returned (.func (.func 197) #[] #[.pointer (some ⟨g,0,none⟩)])/\w.heap.size<=g/\av w' g 75 #[v]/\w'.ownsRow w 3 1 v (ps.length+1) (kM (xJ off ps ps.length))/\Below w w w'
theorem E4 (sn:Int) (po sg la:Bool) (off:Nat) (s e:Bool) (A:Option Addr) (n c:Nat) (vs:List Value) (ps:List (List UInt8)) (w:World) (h:jW w w A n c vs ps) (hn:n<=1000) (hoff:off<=1000000) (hsum:aj ps<=1000000):
 Calls prog 155 #[.agg (dh sn po sg la off s e A n c)] w (Mh w off ps):=by
 obtain ⟨i0,hi,hz0,hz1,hz2⟩:=vz EF;have HL:=ah h.len;have zP:=ah hsum;clear hsum;unfold dh;go_enter func155,ntmps155;go_wp2;have hB0:=(((bS w w).alloc (aL) (.cells (dh sn po sg la off s e A n c) 148)).alloc (by simp) (.cells #[off] 3)).alloc (by simp;omega) (.cells #[.slice (some ⟨w+1,0,none⟩) 1 1] 75);have hG0:=av.new ((w.alloc (.cells (dh sn po sg la off s e A n c) 148)).alloc (.cells #[off] 3)) 75 #[.slice (some ⟨w+1,0,none⟩) 1 1];simp only[mZ] at hG0;have hO0:(((w.alloc (.cells (dh sn po sg la off s e A n c) 148)).alloc (.cells #[off] 3)).alloc (.cells #[.slice (some ⟨w+1,0,none⟩) 1 1] 75)).ownsRow w.heap.size 3 1 (.slice (some ⟨w+1,0,none⟩) 1 1) 1 [off]:=by
  have:=(World.ownsRow_lit (base:=w.heap.size) (e:=3) (size:=1) (w.alloc (.cells (dh sn po sg la off s e A n c) 148)) #[off] 1 (by simp) (by unfold maxLen;omega) rfl).alloc (.cells #[.slice (some ⟨w+1,0,none⟩) 1 1] 75);rw[mZ] at this;exact this
 unfold dh at hB0 hG0 hO0;generalize ((w.alloc (.cells #[sn,.bool po,.bool sg,.bool la,off,.bool s,.bool e,.slice A n c] 148)).alloc (.cells #[off] 3)).alloc (.cells #[.slice (some ⟨w+1,0,none⟩) 1 1] 75)=w1 at*
 go_loopw [13] (fun i wr=>∃(k:Nat) (v:Value),k<=n/\i= .int .i64 k/\av wr (w.heap.size+1+1) 75 #[v]/\wr.ownsRow w 3 1 v (k+1) (kM (xJ off ps k))/\Below w w wr) (fun i _=>n-(intOf i).toNat)
 case atStart=>exact ⟨0,_,eH _,rfl,hG0,by simpa[xJ,kM,aj] using hO0,hB0⟩
 case round=>
  clear hB0 hG0 hO0;obtain ⟨k,v,hk,rfl,bG,hown,hB⟩:=hrel;by_cases hlt:k<n
  ·obtain ⟨ad,Ai,ci,rfl,hbk,hc,hsl⟩:=(h.below hB).get hlt;have hs1:=jG ps k (by rw[HL.out];exact hlt);have hle1:=gG (fB ps (k+1)) zP.out;have hbs:=RF off ps k;have hlast:=EZ off ps k k (aL);generalize ps[k]?.getD []=p at*;rw[hs1] at hbs;generalize aj (List.take k ps)=S at*;have hle2:S+p.length<=1000000:=by omega
   have HBS:=ah hbs;clear hs1 hbs hle1;obtain ⟨gv,cap,rfl,hgl,oL⟩:=hown.form (by omega);have hcl:=hown.cellAt k (by omega);have afm:(kM (xJ off ps k))[k]? =some (.int .i64 ((off:Int)+S)):=by simp[kM,hlast]
   rw[afm] at hcl;clear afm hlast;have g0:=bG.cell 0;have gf:=bG.frozen 0;simp at g0;have hGl:=bG.lt;have hw1:IntKind.i64.wrap ((k:Int)+1)=(k:Int)+1:=iG _ (by omega);have hk1:(k:Int)+1-1=k:=by omega
   have hk2:IntKind.i64.wrap (k:Int)=k:=iG _ (by omega);have hk3:IntKind.i64.wrap ((off:Int)+S+p.length)=(off:Int)+S+p.length:=iG _ (by omega);have hk4:(k:Int)<(k:Int)+1:=by omega
   go_upto_block 1 with (fail)
   go_cut [] (fun wx=>∃(A5:Option Addr) (c5:Nat),av wx (w.heap.size+1+1) 75 #[.slice A5 (k+1+1) c5]/\wx.ownsRow w 3 1 (.slice A5 (k+1+1) c5) (k+1+1) (kM (xJ off ps (k+1)))/\Below w w wx)
   case first=>
    go_wp2
    go_region_law ((refine fA _ (by rfl) _ _ 75 (by rfl) w 3 i0 (.int .i64 0) 8 Oy hi hz0 hz1 hz2 rfl (.slice (some ⟨gv,0,none⟩) (k+1) cap) (k+1) (kM (xJ off ps k)) (by rfl) (World.ownsRow.drew' (hown.alloc (.cells #[.int .i64 ((off:Int)+S+p.length)] 3))) (wr.alloc (.cells #[.int .i64 ((off:Int)+S+p.length)] 3)).heap.size (some ⟨wr,0,none⟩) 1 1 [.int .i64 ((off:Int)+S+p.length)] (by rfl) (pG wr (.int .i64 ((off:Int)+S+p.length)) 3) (by simp[Value.oneCell']) (by unfold maxLen;omega) (by omega) (by have:=hB.size;simp;omega) ?_;intro v5 w5 hown5 dV _;obtain ⟨A5,c5,rfl,hs5,_⟩:=aY hown5;have vI:=(bG.alloc (.cells #[.int .i64 ((off:Int)+S+p.length)] 3)).drew.grown dV (fun e=>aK hown bG (by decide) e.symm);have q2:=vI.cell 0;have q3:=vI.frozen 0;simp at q2))
    all_goals
     have hG6:=vI.ay 0 (.slice A5 (k+1+1) c5);simp at hG6;have hown6:=aN (i:=0) hown5 vI (by decide) (.slice A5 (k+1+1) c5);have qw:=(((hB.alloc hB.size (.cells #[.int .i64 ((off:Int)+S+p.length)] 3)).drew).grown dV (by have:=hB.size;simp;omega) (fun g hg=>by have:=(hown.lt g hg).1;omega)).setCell (p:=⟨w.heap.size+1+1,0,none⟩) (by simp;omega) (.slice A5 (k+1+1) c5);go_wp2_with fail;go_meet;refine ⟨A5,c5,hG6,?_,qw⟩;rw[HBS.out];have e1:kM (xJ off ps k++ [off+(S+p.length)])=kM (xJ off ps k)++ [.int .i64 ((off:Int)+S+p.length)]:=by simp[kM];omega
     rw[e1];exact hown6
   case rest=>
    obtain ⟨A5,c5,hG6,hown6,qw⟩:=hcut;clear hw1 hk1 hk2 hk3 hk4;go_wp2
    go_roundw
    case rel=>exact ⟨k+1,_,by omega,by go_num,hG6,hown6,qw⟩
    case measure=>simp[intOf];omega
  ·have hkn:k=ps.length:=by rw[HL.out];omega
   rw[hkn] at hown;clear hkn;go_wp2;go_ret;exact ⟨_,_,rfl,by omega,bG,hown,hB⟩
def DX (off:Nat) (ps:List (List UInt8)) (k:Nat):Array Value:= #[.int .i64 ((off+aj (ps.take k):Nat):Int),.int .i64 ((off+aj (ps.take (k+1)):Nat):Int)]
theorem CK (n:Nat) (hn:1<=n) (g B:Nat) (v:Value) (off:Nat) (ps:List (List UInt8)) (_hoff:off<=1000000) (hsum:aj ps<=1000000) (hlen:ps.length<=1000) (M:Nat->Obj->Prop) (w:World)
 (hg:av w g 75 #[v]) (hv:w.ownsRow B 3 1 v (ps.length+1) (kM (xJ off ps ps.length))) (hMg:¬M g (.cells #[v] 75 (0,0))) (XB:∀k o,v.ownBlock=some k->¬M k o):
 OV Fence.wide n prog 197 #[.pointer (some g)] (DX off ps) ps.length (Kept M) w:=fun l J W hW _ hY h0=>by
 have hg':=hg.below hW hg.lt;have hv':W.ownsRow B 3 1 v (ps.length+1) (kM (xJ off ps ps.length)):=hv.kept (row:=none) ⟨hW.os,hW.tape,hW.output,hW.size,fun k hk _=>hW.block k hk⟩ (by
  rcases hb:v.ownBlock with _|k
  ·exact .inl rfl
  ·exact .inr (by simp))
 have hvk:∀wr,Kept M W wr->wr.ownsRow B 3 1 v (ps.length+1) (kM (xJ off ps ps.length)):=fun wr hk=>mI hv' hk (fun k o _ hk2=>XB k o hk2)
 have HVK:=ah hvk;clear hvk;obtain ⟨gv,cap,rfl,hgl,oL⟩:=hv'.form (by omega);have HY:=ah hY;clear hY;have hcap:ps.length+1<=cap/\cap<=9223372036854775807:=by
  have hs:=gK hv';exact ⟨hs.cap,hs.mx⟩
 refine Ev func197 rfl trivial ?_ rfl;simp only[ntmps197,vP,jh,gQ,Nat.reduceAdd,Nat.reduceSub,zA,zz,zF,zB,pY,qJ];have hcw:=hg'.cell 0;simp at hcw;refine nZ ?_
 gi_wp2
 refine wpIn_label ?_
 gi_wp2
 gi_loopw [11] (fun i wr=>∃k:Nat,k<=ps.length/\i= .int .i64 k/\J k wr/\Kept M W wr) (fun i _=>ps.length-(intOf i).toNat)
 case atStart=>exact ⟨0,eH _,by simp,h0,Kept.refl _ _⟩
 case round=>
  obtain ⟨k,hk,rfl,hJs,hnx⟩:=hrel;by_cases hlt:k<ps.length
  ·have ZR:=HVK.out wr hnx;have hgr:=hg'.kept hnx hMg;have hc0:=hgr.cell 0;simp at hc0;have hck:=ZR.cellAt k (by omega);have akk:=ZR.cellAt (k+1) (by omega);have e0:=EZ off ps ps.length k (by omega);have e1:=EZ off ps ps.length (k+1) (by omega);have Qz:=HY.out k wr hlt hJs;unfold DX at Qz;have b0:aj (ps.take k)<=1000000:=gG (fB ps k) hsum;have b1:aj (ps.take (k+1))<=1000000:=gG (fB ps (k+1)) hsum;simp only[kM,oW,e0,e1,G8] at hck akk;generalize off+aj (ps.take k)=a at*;generalize off+aj (ps.take (k+1))=b at*;obtain ⟨fn,tmps,assign,body,hy,hR⟩:=Qz;clear e0 e1 b0 b1 ZR
   gi_wp2
   refine hR.mono ?_;rintro e W3 ⟨rfl,hJ3,hk3⟩
   gi_wp2
   go_roundw
   case rel=>exact ⟨k+1,by omega,by go_num,hJ3,hnx.trans hk3⟩
   case measure=>simp[intOf];omega
  ·have e:k=ps.length:=by omega
   have OA:J ps.length wr:=by rw[e] at hJs;exact hJs
   clear e hJs
   gi_wp2
   rw[Eo]
   go_end0
   exact ⟨⟨_,rfl⟩,OA⟩
def cZ (w:World) (base:Nat) (vo:Value) (ps:List (List UInt8)):Prop:=
 ∃vs,w.ownsRow base 31 1 vo ps.length vs/\∀(i:Nat) (p:List UInt8),ps[i]? =some p->∃A c,vs[i]? =some (.slice A p.length c)/\w.ownsRow base 5 1 (.slice A p.length c) p.length (dz p)
def Mi (w:World) (sn:Int) (jB:Bool) (fr:Int) (s e:Bool) (ps:List (List UInt8)) (en:Ending) (w':World):Prop:=
 Below w w w'/\∃A c,en= .returned (.tuple #[.agg (dh sn false true jB fr s e A ps.length c),.int .i64 0])/\cZ w' w (.slice A ps.length c) ps
theorem av.Us {w:World} {g:Nat} {t:TypeId} {x0 x1 x2 x3 x4 x5 x6 x7:Value} (b:av w g t #[x0,x1,x2,x3,x4,x5,x6,x7]) (u0 u1 u2 u3 u4 u5 u6 u7:Value):
 av ((((((((w.setCell g u0).setCell ⟨g,1,none⟩ u1).setCell ⟨g,2,none⟩ u2).setCell ⟨g,3,none⟩ u3).setCell ⟨g,4,none⟩ u4).setCell ⟨g,5,none⟩ u5).setCell ⟨g,6,none⟩ u6).setCell ⟨g,7,none⟩ u7) g t #[u0,u1,u2,u3,u4,u5,u6,u7]:=by
 have:=(((((((b.ay 0 u0).ay 1 u1).ay 2 u2).ay 3 u3).ay 4 u4).ay 5 u5).ay 6 u6).ay 7 u7;simpa using this
theorem uw {B:Nat} {a w:World} (hb:Below B a w) {g:Nat} (hg:B<=g) (u0 u1 u2 u3 u4 u5 u6 u7:Value):
 Below B a ((((((((w.setCell g u0).setCell ⟨g,1,none⟩ u1).setCell ⟨g,2,none⟩ u2).setCell ⟨g,3,none⟩ u3).setCell ⟨g,4,none⟩ u4).setCell ⟨g,5,none⟩ u5).setCell ⟨g,6,none⟩ u6).setCell ⟨g,7,none⟩ u7):=
 (((((((hb.setCell (p:=⟨g,0,none⟩) hg u0).setCell (p:=⟨g,1,none⟩) hg u1).setCell (p:=⟨g,2,none⟩) hg u2).setCell (p:=⟨g,3,none⟩) hg u3).setCell (p:=⟨g,4,none⟩) hg u4).setCell (p:=⟨g,5,none⟩) hg u5).setCell (p:=⟨g,6,none⟩) hg u6).setCell (p:=⟨g,7,none⟩) hg u7
end Go.Proofs.YtbhiklnljiehiaaGreat
