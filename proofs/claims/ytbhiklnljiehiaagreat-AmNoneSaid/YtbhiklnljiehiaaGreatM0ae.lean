/- The bit reader: NewReader, Left, Get, At, Align. The bit reader: NewReader, Align; errors that are raised: must, got. The bit reader: each, GetAll. umpdu.Decode: the lengths. umpdu.Decode: the parts. umpdu.Decode: errors are recovered. umpdu.Decode. law30: same, num, few, fails. law30: works, the examples of the chapter. Equality of slices and chunks: slices.Equal, slices.EqualFunc, umpdu.Same, the reference's Same. umpdu.Same and the reference's Same. law30.UmpduSame: the walk. amsend: check, held, next, place, pending, idle. -/
import Derived.Test.YtbhiklnljiehiaaGreatM0aa
import Derived.Test.YtbhiklnljiehiaaGreatM0ac
import Derived.Test.YtbhiklnljiehiaaGreatM0ad
import Derived.Defers
import Derived.Recover
import Derived.WideLaws
import Derived.Laws.IdiomStrings
import Derived.Laws.BytesArg
import Derived.Lib.SlBytesConst
import Derived.Lib.BufferRead
import Derived.Lib.SmallJoins
namespace Go.Proofs.YtbhiklnljiehiaaGreat
open Go.RowKit
def jF (w:World) (r:Nat) (v:Value) (bs:List UInt8) (pos:Nat):Prop:=
 au w r 262 #[v,.int .i64 pos]∧w.ownsRow 0 5 1 v bs.length (bV bs)
theorem jF.drewN {w:World} {r:Nat} {v:Value} {bs:List UInt8} {pos:Nat} (h:jF w r v bs pos) (k:Nat):jF (w.drewN k) r v bs pos:=h
theorem jl {w w':World} {M:Nat→Obj→Prop} {base:Nat} {e:TypeId} {size n:Nat} {v:Value} {xs:List Value} (h:w.ownsRow base e size v n xs) (hk:Kept M w w') (hM:∀k o,IW o e→v.ownBlock=some k→¬M k o):w'.ownsRow base e size v n xs:=by
 rcases h.2 with ⟨rfl,h0⟩|⟨g',cap,cur,rfl,h1,h2,h3⟩
 ·exact ⟨h.1,.inl ⟨rfl,h0⟩⟩
 ·exact ⟨h.1,.inr ⟨g',cap,cur,rfl,h1,hk.same _ _ h2 (hM _ _ ⟨_,_,rfl⟩ rfl),h3⟩⟩
theorem jF.move {w:World} {r:Nat} {v:Value} {bs:List UInt8} {pos:Nat} (h:jF w r v bs pos) (q:Nat):jF (w.setCell ⟨r,1,none⟩ (.int .i64 q)) r v bs q:=
 ⟨by simpa using h.1.av 1 (.int .i64 q),h.2.kept (aM w r 1 _) (.inr (aI h.2 h.1 (by decide)))⟩
theorem xO (r:Nat) (v:Value) (bs:List UInt8) (pos:Nat) (w:World) (h:jF w r v bs pos) (hp:pos≤8*bs.length) (hsm:bs.length≤1000000000):
 Calls Tryz.prog 182 #[.pointer (some ⟨r,0,none⟩)] w fun e w'=>e= .returned (.int .i64 ((8*bs.length-pos:Nat):Int))∧∃k,w.drewN k=w':=by
 obtain ⟨A,c,rfl,_⟩:=aZ h.2;have c0:=h.1.cell 0;have c1:=h.1.cell 1;simp at c0 c1;have e1:(8*(bs.length:Int)-pos)=((8*bs.length-pos:Nat):Int):=by omega
 go_enter Tryz.func182,Tryz.ntmps182;go_wp2
 go_quiet (fail)
 go_wp2;go_ret;refine ⟨lN ?_,_,rfl⟩
 go_num
theorem Tc (r:Nat) (v:Value) (bs:List UInt8) (pos:Nat) (w:World) (h:jF w r v bs pos):
 Calls Tryz.prog 189 #[.pointer (some ⟨r,0,none⟩)] w fun e w'=>e= .returned (.int .i64 pos)∧w=w':=by
 have c1:=h.1.cell 1;simp at c1;go_enter Tryz.func189,Tryz.ntmps189;go_wp2;go_ret;exact ⟨rfl,rfl⟩
theorem or_bit (V:Nat) (b:UInt8) (j:Nat) (hV:V<9223372036854775808):
 bits BinOp.or IntKind.u64 ((V:Int)*2) (IntKind.u64.wrap (bits BinOp.and IntKind.u8 ((b.toNat:Int)/2 ^ j) 1))=((2*V+(decide (b.toNat/2 ^ j%2=1)).toNat:Nat):Int):=by
 have hb:b.toNat<256:=b.toNat_lt;have e:(b.toNat:Int)/2 ^ j=((b.toNat/2 ^ j:Nat):Int):=by push_cast;rfl
 have hle:b.toNat/2 ^ j≤b.toNat:=Nat.div_le_self _ _;have h1:=u8_and_nat (b.toNat/2 ^ j) 1 (by omega) (by omega);have h1':bits BinOp.and IntKind.u8 ((b.toNat/2 ^ j:Nat):Int) 1=((b.toNat/2 ^ j&&& 1:Nat):Int):=h1;rw[e,h1',Nat.and_one_is_mod,IntKind.wrap_u64];have hm:=Nat.mod_two_eq_zero_or_one (b.toNat/2 ^ j);generalize b.toNat/2 ^ j%2=x at*;have e2:((x:Nat):Int)%18446744073709551616=((x*2 ^ 0:Nat):Int):=by omega
 have e3:(V:Int)*2=((2*V:Nat):Int):=by omega
 rw[e2,e3,u64_or_nat (2*V) (x*2 ^ 0) (by omega) (by omega),Lj (2*V) x 0 (by omega) (by omega)];rcases hm with rfl|rfl<;>simp
def Rt (w:World) (r:Nat) (v:Value) (bs:List UInt8) (x:Nat) (er:Int) (pos:Nat) (e:Ending) (w':World):Prop:=
 e= .returned (.tuple #[.int .u64 x,.int .i64 er])∧jF w' r v bs pos∧Kept (fun k _=>k=r) w w'
set_option maxHeartbeats 400000 in
theorem Bc (r:Nat) (v:Value) (bs:List UInt8) (pos n:Nat) (w:World) (h:jF w r v bs pos) (hp:pos≤8*bs.length) (hsm:bs.length≤1000000000) (hn:n≤64) (hs:8*bs.length-pos<n):
 Calls Tryz.prog 175 #[.pointer (some ⟨r,0,none⟩),.int .i64 n] w (Rt w r v bs 0 5 pos):=by
 have hl:=xO r v bs pos w h hp hsm;have WK:=Lib.hid hl;generalize 8*bs.length-pos=m at*;clear hl hp hsm;go_enter Tryz.func175,Tryz.ntmps175;go_wp2_with (go_at_call 182;refine WK.out.mono ?_;rintro e w' ⟨rfl,q,rfl⟩)
 go_ret2
 exact ⟨rfl,h.drewN _,(Kept.refl _ w).drewN _⟩
set_option maxHeartbeats 800000 in
theorem Ct (r:Nat) (v:Value) (bs:List UInt8) (pos n:Nat) (w:World) (h:jF w r v bs pos) (hsm:bs.length≤1000000000) (hn:n≤64) (hs:pos+n≤8*bs.length):
 Calls Tryz.prog 175 #[.pointer (some ⟨r,0,none⟩),.int .i64 n] w (Rt w r v bs (val (aH bs pos n)) 0 (pos+n)):=by
 have hl:=xO r v bs pos w h (by omega) hsm;have WK:=Lib.hid hl;obtain ⟨m,hm⟩:∃m,m=8*bs.length-pos:=⟨_,rfl⟩
 rw[←hm] at WK;have hnm:n≤m:=by omega
 clear hl hm;go_enter Tryz.func175,Tryz.ntmps175;go_wp2_with (go_at_call 182;refine WK.out.mono ?_;rintro e w' ⟨rfl,q,rfl⟩)
 replace h:=h.drewN q
 have hk0:=(Kept.refl (fun k _=>k=r) w).drewN q;generalize w.drewN q=w1 at*;clear WK
 go_loopw [4,22] (fun t i wr=>∃k:Nat,k≤n∧i= .int .i64 k∧t= .int .u64 (val (aH bs pos k))∧jF wr r v bs (pos+k)∧Kept (fun k _=>k=r) w wr) (fun _ i _=>n-(intOf i).toNat)
 case atStart=>exact ⟨0,Nat.zero_le _,rfl,rfl,h,hk0⟩
 case round=>
  clear h hk0;obtain ⟨k,hk,rfl,rfl,hr,hkp⟩:=hrel;by_cases hlt:k<n
  ·obtain ⟨A,c,rfl,hsl,_⟩:=aZ hr.2;have c0:=hr.1.cell 0;have c1:=hr.1.cell 1;have f1:=hr.1.frozen 1;simp only[List.getElem?_toArray,List.getElem?_cons_zero,List.getElem?_cons_succ] at c0 c1;obtain ⟨ad,u,rfl,hub,hu,hcu⟩:=hsl.get (k:=(pos+k)/8) (by omega);obtain ⟨b,hb⟩:∃b,bs[(pos+k)/8]? =some b:=⟨_,List.getElem?_eq_getElem (by omega)⟩
   have hu':u= .int .u8 (b.toNat:Int):=by
    unfold bV at hu;rw[List.getElem?_map,hb] at hu;simpa[bv] using hu.symm
   subst hu';have hvl:=oW (aH bs pos k);rw[eT] at hvl;have hvs:val (aH bs pos (k+1))=2*val (aH bs pos k)+(JA bs (pos+k)).toNat:=by rw[D6,Ll]
   have hbit:JA bs (pos+k)=decide (b.toNat/2 ^ (7-(pos+k)%8)%2=1):=by unfold JA;rw[List.getD_eq_getElem?_getD,hb];rfl
   rw[hbit] at hvs;generalize val (aH bs pos k)=V at*;have aby:V<9223372036854775808:=Nat.lt_of_lt_of_le hvl (by have:=Nat.pow_le_pow_right (n:=2) (by omega) (show k≤63 by omega);simpa using this);have HVS:=Lib.hid hvs;clear hvs hbit hu hb hvl;have hq8:(pos+k)/8<bs.length:=by omega
   have hmv:=hr.move (pos+k+1);have HMV:=Lib.hid hmv;have hk2:=hkp.setCell (p:=⟨r,1,none⟩) (fun _ _=>rfl) (.int .i64 ((pos+k+1:Nat):Int));have xP:=Lib.hid hk2;have hqb:pos+k<10000000000:=by omega
   clear hmv hk2 hr hkp hsl hub;have hq1:(0:Int)≤((pos:Int)+k)/8:=by omega
   have hq2:((pos:Int)+k)/8<bs.length:=by omega
   have hq3:(((pos:Int)+k)/8).toNat=(pos+k)/8:=by omega
   have hob:=or_bit V b (7-(pos+k)%8) aby;rw[←HVS.out] at hob;generalize hV':val (aH bs pos (k+1))=V' at*;have HV':=Lib.hid hV';clear hV';go_wp2
   go_quiet (fail)
   clear hob hq1 hq2 hq3;have f1':(wr.drewN nq).frozen? ⟨r,1,none⟩=false:=f1;have c1':(wr.drewN nq).cell? ⟨r,1,none⟩=some (.int .i64 ((pos:Int)+k)):=by rw[show ((pos:Int)+k)=((pos+k:Nat):Int) by omega];exact c1
   clear f1 c1 c0 hcu;go_wp2
   go_roundw
   case rel=>exact ⟨k+1,by omega,by go_num,by rw[HV'.out],by
    have:=HMV.out;rw[show ((pos+k+1:Nat):Int)=(pos:Int)+k+1 by omega] at this;exact this,by
    have:=xP.out;rw[show ((pos+k+1:Nat):Int)=(pos:Int)+k+1 by omega] at this;exact this.drewN _⟩
   case measure=>simp[intOf];omega
  ·obtain rfl:k=n:=by omega
   go_wp2
   go_ret2
   exact ⟨rfl,hr,hkp⟩
end Go.Proofs.YtbhiklnljiehiaaGreat
namespace Go.Proofs.YtbhiklnljiehiaaGreat
open Go.RowKit
def LF (w:World) (bs:List UInt8) (e:Ending) (w':World):Prop:=
 ∃r v,e= .returned (.pointer (some ⟨r,0,none⟩))∧w.heap.size≤r∧jF w' r v bs 0∧Below w.heap.size w w'
theorem qC (A:Option Addr) (n c:Nat) (bs:List UInt8) (w:World) (h:Sl w w.heap.size A n c (bV bs)) (hsm:n≤1000000000):
 Calls Tryz.prog 134 #[.slice A n c] w (LF w bs):=by
 have hl:bs.length=n:=by simpa using h.len
 have hcl:=kN A n c bs w h hsm;have HC:=Lib.hid hcl;clear hcl hsm;go_enter Tryz.func134,Tryz.ntmps134;go_wp2_with fail;refine HC.out.mono ?_;rintro e w1 ⟨v,rfl,hv,hb⟩;obtain ⟨A1,c1,rfl,hs1,_⟩:=aZ hv;go_wp2;go_ret;refine ⟨w1.heap.size,_,rfl,hb.size,⟨au.new w1 262 _,?_⟩,hb.alloc hb.size _⟩;rw[hl];exact aR (hv.alloc _) (Nat.zero_le _)
abbrev raise (er:Int):Ending:= .panicked [{v:= .iface 53 (.int .i64 er),recovered:=false}]
def O3 (w:World) (r:Nat) (v:Value) (bs:List UInt8) (er:Int) (pos:Nat) (e:Ending) (w':World):Prop:=
 e= .returned (.int .i64 er)∧jF w' r v bs pos∧Kept (fun k _=>k=r) w w'
set_option maxHeartbeats 400000 in
theorem xQ (r:Nat) (v:Value) (bs:List UInt8) (pos:Nat) (w:World) (h:jF w r v bs pos) (hsm:bs.length≤1000000000) (hp:pos≤8*bs.length):
 Calls Tryz.prog 183 #[.pointer (some ⟨r,0,none⟩)] w (O3 w r v bs (if val (aH bs pos (mK pos))=0 then 0 else 9) (if val (aH bs pos (mK pos))=0 then pos+mK pos else pos)):=by
 have hn8:mK pos<8:=by unfold mK;omega
 have hfit:pos+mK pos≤8*bs.length:=by unfold mK;omega
 have hg:=Ct r v bs pos (mK pos) w h hsm (by omega) hfit;have c1:=h.1.cell 1;simp at c1;have ahP:(8-(pos:Int)%8)%8=(mK pos:Int):=by unfold mK;omega
 have HG:=Lib.hid hg;generalize mK pos=n at*;generalize val (aH bs pos n)=V at*;have hps:pos<10000000000:=by omega
 clear hg hfit hsm;by_cases hV:V=0
 ·subst hV;simp only[if_true];go_enter Tryz.func183,Tryz.ntmps183;go_wp2_with fail;refine HG.out.mono ?_;rintro e w1 ⟨rfl,hr1,hk1⟩;go_wp2;go_ret;exact ⟨rfl,hr1,hk1⟩
 ·have hV':((V:Int) !=0)=true:=by simp;omega
  simp only[if_neg hV];go_enter Tryz.func183,Tryz.ntmps183;go_wp2_with fail;refine HG.out.mono ?_;rintro e w1 ⟨rfl,hr1,hk1⟩;have c1:=hr1.1.cell 1;have f1:=hr1.1.frozen 1;simp at c1;have e1:((pos:Int)+n)-n=pos:=by omega
  go_wp2;go_ret;exact ⟨rfl,hr1.move pos,hk1.setCell (p:=⟨r,1,none⟩) (fun _ _=>rfl) _⟩
end Go.Proofs.YtbhiklnljiehiaaGreat
namespace Go.Proofs.YtbhiklnljiehiaaGreat
open Go.RowKit
theorem Ej:(Tryz.prog.info? 204).map (fun i=>(i.zero,i.size,i.bytes))=some (some (.int .u64 0),1,8):=by kernel_rfl
theorem LG:Tryz.prog.underlying 220=some (.slice 204):=by kernel_rfl
def getAll (bs:List UInt8) (pos:Nat) (ws:List Nat):List Nat:=(List.range ws.length).map fun i=>val (aH bs (pos+(ws.take i).sum) (ws[i]?.getD 0))
def nT (l:List Nat):List Value:=l.map fun (x:Nat)=>Value.int .u64 (x:Int)
def iI (l:List Nat):List Value:=l.map fun (x:Nat)=>Value.int .i64 (x:Int)
theorem vJ (bs:List UInt8) (pos:Nat) (ws:List Nat) (k n:Nat) (h:ws[k]? =some n):getAll bs pos (ws.take (k+1))=getAll bs pos (ws.take k)++ [val (aH bs (pos+(ws.take k).sum) n)]:=by
 have hk:k<ws.length:=(List.getElem?_eq_some_iff.1 h).1;unfold getAll;have e1:(ws.take (k+1)).length=k+1:=by simp;omega
 have e2:(ws.take k).length=k:=by simp;omega
 rw[e1,e2,List.range_succ,List.map_append]
 congr 1
 ·apply List.map_congr_left;intro i hi;rw[List.mem_range] at hi;rw[List.take_take,List.take_take,List.getElem?_take,List.getElem?_take,if_pos (by omega),if_pos hi,Nat.min_eq_left (by omega),Nat.min_eq_left (by omega)]
 ·simp only[List.map_cons,List.map_nil];rw[List.take_take,List.getElem?_take,if_pos (by omega),Nat.min_eq_left (by omega),h];rfl
theorem sw (ws:List Nat) (k n:Nat) (h:ws[k]? =some n):(ws.take (k+1)).sum=(ws.take k).sum+n:=by
 rw[List.take_add_one,h,List.sum_append];simp
theorem j4 (ws:List Nat) (k:Nat):(ws.take k).sum≤ws.sum:=by
 conv=>rhs;rw[←List.take_append_drop k ws]
 rw[List.sum_append];omega
theorem LH (be bf br bo:Nat) (u:FrameMode) (w:World) (he:au w be 53 #[.int .i64 0]):
 CallsD Tryz.prog 205 #[.pointer (some ⟨be,0,none⟩),.pointer (some ⟨bf,0,none⟩),.pointer (some ⟨br,0,none⟩),.pointer (some ⟨bo,0,none⟩)] u w fun e u' w'=>u'=u∧(e= .returned (.tuple #[])∧w=w'):=by
 have c0:=he.cell 0;simp at c0
 go_enter_d Tryz.func205,Tryz.ntmps205
 go_wp2
 go_end0
 exact ⟨rfl,rfl⟩
theorem JJ (be bf br bo r pos q:Nat) (er:Int) (vo v0:Value) (u:FrameMode) (w:World) (he:au w be 53 #[.int .i64 er]) (KZ:(er !=0)=true) (hf:au w bf 3 #[.int .i64 pos]) (hr:au w br 216 #[.pointer (some ⟨r,0,none⟩)])
 (ho:au w bo 220 #[vo]) (hrr:au w r 262 #[v0,.int .i64 q]) (hne:bo≠r):
 CallsD Tryz.prog 205 #[.pointer (some ⟨be,0,none⟩),.pointer (some ⟨bf,0,none⟩),.pointer (some ⟨br,0,none⟩),.pointer (some ⟨bo,0,none⟩)] u w fun e u' w'=>u'=u∧(e= .returned (.tuple #[])∧(w.setCell ⟨r,1,none⟩ (.int .i64 pos)).setCell ⟨bo,0,none⟩ (.slice none 0 0)=w'):=by
 have c0:=he.cell 0;have c1:=hf.cell 0;have c2:=hr.cell 0;have c3:=ho.cell 0;have f3:=ho.frozen 0;have c4:=hrr.cell 1;have f4:=hrr.frozen 1;simp at c0 c1 c2 c3 c4;have c3':(w.setCell ⟨r,1,none⟩ (.int .i64 pos)).cell? ⟨bo,0,none⟩=some vo:=by
  have:=(ho.far (p:=⟨r,1,none⟩) hne (.int .i64 pos)).cell 0;simpa using this
 have f3':(w.setCell ⟨r,1,none⟩ (.int .i64 pos)).frozen? ⟨bo,0,none⟩=false:=(ho.far (p:=⟨r,1,none⟩) hne (.int .i64 pos)).frozen 0
 go_enter_d Tryz.func205,Tryz.ntmps205
 go_wp2
 go_end0
 exact ⟨rfl,rfl⟩
structure uD (w:World) (r:Nat) (v:Value) (bs:List UInt8) (pos:Nat) (ws:List Nat) (k:Nat) (wr:World) (vo:Value):Prop where
 br:au wr w.heap.size 216 #[.pointer (some ⟨r,0,none⟩)]
 bo:au wr (w.heap.size+1) 220 #[vo]
 be:au wr (w.heap.size+1+1) 53 #[.int .i64 0]
 bf:au wr (w.heap.size+1+1+1) 3 #[.int .i64 pos]
 rd:jF wr r v bs (pos+(ws.take k).sum)
 ow:wr.ownsRow w.heap.size 204 1 vo k (nT (getAll bs pos (ws.take k)))
 kp:Kept (fun j _=>j=r∨w.heap.size≤j) w wr
theorem uD.step {w:World} {r:Nat} {v:Value} {bs:List UInt8} {pos:Nat} {ws:List Nat} {k:Nat} {wr w1:World} {vo:Value} (st:uD w r v bs pos ws k wr vo) (hr:r<w.heap.size) (hk:Kept (fun j _=>j=r) wr w1):
 au w1 w.heap.size 216 #[.pointer (some ⟨r,0,none⟩)]∧au w1 (w.heap.size+1) 220 #[vo]∧au w1 (w.heap.size+1+1) 53 #[.int .i64 0]∧au w1 (w.heap.size+1+1+1) 3 #[.int .i64 pos]∧
  w1.ownsRow w.heap.size 204 1 vo k (nT (getAll bs pos (ws.take k)))∧Kept (fun j _=>j=r∨w.heap.size≤j) w w1:=
 ⟨st.br.kept hk (by omega),st.bo.kept hk (by omega),st.be.kept hk (by omega),st.bf.kept hk (by omega),jl st.ow hk (fun j o _ hj e=>by have:=(st.ow.lt j hj).1;omega),st.kp.trans (hk.mono fun _ _ e=> .inl e)⟩
def I1 (w:World) (r:Nat) (v:Value) (bs:List UInt8) (pos:Nat) (ws:List Nat) (e:Ending) (w':World):Prop:=
 ∃vo,e= .returned (.tuple #[vo,.int .i64 0])∧w'.ownsRow w.heap.size 204 1 vo ws.length (nT (getAll bs pos ws))∧jF w' r v bs (pos+ws.sum)∧Kept (fun k _=>k=r∨w.heap.size≤k) w w'
set_option maxRecDepth 100000 in
set_option maxHeartbeats 2000000 in
theorem O4 (r b:Nat) (v:Value) (bs:List UInt8) (pos:Nat) (ws:List Nat) (w:World) (h:jF w r v bs pos) (hsm:bs.length≤1000000000) (hws:∀n∈ws,n≤64) (hwl:ws.length≤1000)
 (hb:au w b 3 (iI ws).toArray) (hfit:pos+ws.sum≤8*bs.length):
 Calls Tryz.prog 174 #[.pointer (some ⟨r,0,none⟩),.slice (some ⟨b,0,none⟩) ws.length ws.length,.func (.func 175) #[.pointer (some ⟨r,0,none⟩)] #[]] w (I1 w r v bs pos ws):=by
 obtain ⟨i0,hi,hz0,hz1,hz2⟩:=info_parts Ej;have c1:=h.1.cell 1;simp at c1;have hrl:=h.1.lt;have hbl:=hb.lt;have hrb:b≠r:=by
  rintro rfl;have h1:=h.1;unfold au at h1 hb;rw[h1] at hb;injection hb with hb
  injection hb with _ h2
  exact absurd h2 (by decide)
 have HWS:=Lib.hid hws;have um:=Lib.hid hsm;have HF:=Lib.hid hfit;clear hws hsm hfit;obtain ⟨N,hN⟩:∃N,ws.length=N:=⟨_,rfl⟩
 rw[hN] at hwl ⊢;have HN:=Lib.hid hN;clear hN;have c1':=(((h.1.alloc (.cells #[.pointer (some ⟨r,0,none⟩)] 216)).alloc (.cells #[.slice none 0 0] 220)).alloc (.cells #[.int .i64 0] 53)).cell 1;simp only[List.getElem?_toArray,List.getElem?_cons_zero,List.getElem?_cons_succ] at c1';have hst:uD w r v bs pos ws 0 ((((w.alloc (.cells #[.pointer (some ⟨r,0,none⟩)] 216)).alloc (.cells #[.slice none 0 0] 220)).alloc (.cells #[.int .i64 0] 53)).alloc (.cells #[.int .i64 pos] 3)) (.slice none 0 0):=by
  refine ⟨(((au.new w _ _).alloc _).alloc _).alloc _,?_,?_,?_,?_,World.ownsRow_nil _ _ _ _,((((Kept.refl _ w).alloc _).alloc _).alloc _).alloc _⟩
  ·simpa using ((au.new (w.alloc (.cells #[.pointer (some ⟨r,0,none⟩)] 216)) 220 #[.slice none 0 0]).alloc (.cells #[.int .i64 0] 53)).alloc (.cells #[.int .i64 pos] 3)
  ·simpa using (au.new ((w.alloc (.cells #[.pointer (some ⟨r,0,none⟩)] 216)).alloc (.cells #[.slice none 0 0] 220)) 53 #[.int .i64 0]).alloc (.cells #[.int .i64 pos] 3)
  ·simpa using au.new (((w.alloc (.cells #[.pointer (some ⟨r,0,none⟩)] 216)).alloc (.cells #[.slice none 0 0] 220)).alloc (.cells #[.int .i64 0] 53)) 3 #[.int .i64 pos]
  ·exact ⟨(((h.1.alloc _).alloc _).alloc _).alloc _,(((h.2.alloc _).alloc _).alloc _).alloc _⟩
 have HST:=Lib.hid hst;clear hst
 go_enter_defers Tryz.func174,Tryz.ntmps174
 go_wp2
 go_loopw [22] (fun i wr=>∃(k:Nat) (vo:Value),k≤N∧i= .int .i64 k∧uD w r v bs pos ws k wr vo) (fun i _=>N-(intOf i).toNat)
 case atStart=>exact ⟨0,_,Nat.zero_le _,rfl,HST.out⟩
 case round=>
  obtain ⟨k,vo,hk,rfl,st⟩:=hrel;by_cases hlt:k<N
  ·obtain ⟨n,hn⟩:∃n,ws[k]? =some n:=⟨_,List.getElem?_eq_getElem (by rw[HN.out];exact hlt)⟩
   have O5:=HWS.out n (List.mem_of_getElem? hn);have hsn:=sw ws k n hn;have hga:=vJ bs pos ws k n hn;have hle:=j4 ws (k+1);have hbk:au wr b 3 (iI ws).toArray:=hb.kept st.kp (by rintro (e|e);exact hrb e;omega);have hcb:=hbk.cell k;have Lu:wr.cell? ⟨b,k,none⟩=some (.int .i64 n):=by rw[hcb,List.getElem?_toArray];unfold iI;rw[List.getElem?_map,hn];rfl
   have hget:=Ct r v bs (pos+(ws.take k).sum) n wr st.rd um.out O5 (by have:=HF.out;omega);have HG:=Lib.hid hget;have Og:=Lib.hid hsn;have Td:=Lib.hid hga;clear hget hcb hsn hga hle hbk hn;go_wp2_with fail;refine HG.out.mono ?_;rintro e1 w1 ⟨rfl,hr1,hk1⟩;have st1:=st.step hrl hk1;generalize val (aH bs (pos+(ws.take k).sum) n)=x at*;clear HG st Lu;obtain ⟨Gc,zD,rT,Oi,wm,O6⟩:=st1;have co:=zD.cell 0;simp at co;go_wp2_with (at_builtin;refine wpList_append_own _ rfl _ _ 220 rfl w.heap.size 204 i0 (.int .u64 0) 1 8 LG hi hz0 hz1 hz2 rfl (by decide) _ _ _ rfl (wm.alloc _) ⟨w1.heap.size,0,none⟩ 1 1 [.int .u64 x] rfl rfl ?c1 ?c2 ?c3 ?c4 ?c5 ?_)
   case c1=>exact cell_one_new _ _ _
   case c2=>simp[Value.oneCell']
   case c3=>unfold maxLen;omega
   case c4=>omega
   case c5=>have:=O6.size;simp;omega
   intro v' w2 hown' hgrow _;have hin:∀j,vo.ownBlock=some j→w.heap.size≤j:=fun j hj=>(wm.lt j hj).1
   have xR:=(zD.alloc (.cells #[.int .u64 x] 204)).grown hgrow (fun e=>aI wm zD (by decide) e.symm);have Te:=(Gc.alloc (.cells #[.int .u64 x] 204)).grown hgrow (fun e=>aI wm Gc (by decide) e.symm);have Tf:=(rT.alloc (.cells #[.int .u64 x] 204)).grown hgrow (fun e=>aI wm rT (by decide) e.symm);have Tg:=(Oi.alloc (.cells #[.int .u64 x] 204)).grown hgrow (fun e=>aI wm Oi (by decide) e.symm);have hk2:Kept (fun j _=>j=r∨w.heap.size≤j) w w2:=(O6.alloc (.cells #[.int .u64 x] 204)).grown hgrow (fun j hj o _=> .inr (hin j hj));have hr2:jF w2 r v bs (pos+(ws.take k).sum+n):=by
    refine ⟨(hr1.1.alloc _).grown hgrow (fun e=>aI wm hr1.1 (by decide) e.symm),(hr1.2.alloc _).kept hgrow ?_⟩;rcases hq:v.ownBlock with _|j
    ·exact .inl rfl
    ·refine .inr (fun e=> ?_);obtain ⟨o1,ho1,⟨cs1,WL,rfl⟩,_⟩:=bT hr1.2 hq;obtain ⟨o2,ho2,⟨cs2,WM,rfl⟩,_⟩:=bT wm e.symm;rw[ho1] at ho2;cases ho2
   have co2:=xR.cell 0;have fo2:=xR.frozen 0;simp at co2;obtain ⟨g',cap',rfl,hgl,kz⟩:=hown'.form (by omega);go_wp2
   go_roundw
   case rel=>
    refine ⟨k+1,.slice (some ⟨g',0,none⟩) (k+1) cap',by omega,by go_num,⟨Te.far (by simp) _,by simpa using xR.av 0 (.slice (some ⟨g',0,none⟩) (k+1) cap'),Tf.far (by simp<;>omega) _,Tg.far (by simp<;>omega) _,?_,?_,hk2.setCell (p:=⟨w.heap.size+1,0,none⟩) (fun _ _=> .inr (by simp)) _⟩⟩
    ·rw[Og.out,←Nat.add_assoc];exact ⟨hr2.1.far (by simp<;>omega) _,hr2.2.kept (aM _ _ 0 _) (.inr (aI hr2.2 xR (by decide)))⟩
    ·rw[Td.out];have:=hown'.kept (aM w2 (w.heap.size+1) 0 (.slice (some ⟨g',0,none⟩) (k+1) cap')) (.inr (aI hown' xR (by decide)));simpa[nT] using this
   case measure=>simp[intOf];omega
  ·have e:ws.take k=ws:=List.take_of_length_le (by rw[HN.out];omega);obtain ⟨Gc,zD,rT,Oi,WN,wm,O6⟩:=st;rw[e] at WN wm;have hkN:k=N:=by omega
   rw[hkN,←HN.out] at wm;clear e hkN;obtain ⟨A1,zS,rfl,hs1,_⟩:=aZ wm;have co:=zD.cell 0;have fo:=zD.frozen 0;have ce:=rT.cell 0;have fe:=rT.frozen 0;simp at co ce;have LJ:au ((wr.setCell ⟨w.heap.size+1,0,none⟩ (.slice A1 ws.length zS)).setCell ⟨w.heap.size+1+1,0,none⟩ (.int .i64 0)) (w.heap.size+1+1) 53 #[.int .i64 0]:=by
    simpa using (rT.far (p:=⟨w.heap.size+1,0,none⟩) (by simp<;>omega) (.slice A1 ws.length zS)).av 0 (.int .i64 0)
   have LK:au ((wr.setCell ⟨w.heap.size+1,0,none⟩ (.slice A1 ws.length zS)).setCell ⟨w.heap.size+1+1,0,none⟩ (.int .i64 0)) (w.heap.size+1) 220 #[.slice A1 ws.length zS]:=by
    simpa using (zD.av 0 (.slice A1 ws.length zS)).far (p:=⟨w.heap.size+1+1,0,none⟩) (by simp<;>omega) (.int .i64 0)
   have hkp3:=(O6.setCell (p:=⟨w.heap.size+1,0,none⟩) (fun _ _=> .inr (by simp)) (.slice A1 ws.length zS)).setCell (p:=⟨w.heap.size+1+1,0,none⟩) (fun _ _=> .inr (by simp<;>omega)) (.int .i64 0);have abC:=(wm.kept (aM wr (w.heap.size+1) 0 (.slice A1 ws.length zS)) (.inr (aI wm zD (by decide)))).kept (aM _ (w.heap.size+1+1) 0 (.int .i64 0)) (.inr (aI wm rT (by decide)));have lF:jF ((wr.setCell ⟨w.heap.size+1,0,none⟩ (.slice A1 ws.length zS)).setCell ⟨w.heap.size+1+1,0,none⟩ (.int .i64 0)) r v bs (pos+ws.sum):=
    ⟨(WN.1.far (p:=⟨w.heap.size+1,0,none⟩) (by simp<;>omega) _).far (p:=⟨w.heap.size+1+1,0,none⟩) (by simp<;>omega) _,
     (WN.2.kept (aM wr (w.heap.size+1) 0 (.slice A1 ws.length zS)) (.inr (aI WN.2 zD (by decide)))).kept (aM _ (w.heap.size+1+1) 0 (.int .i64 0)) (.inr (aI WN.2 rT (by decide)))⟩
   go_wp2;refine leaves_cons (f:=205) (args:= #[.pointer (some ⟨w.heap.size+1+1,0,none⟩),.pointer (some ⟨w.heap.size+1+1+1,0,none⟩),.pointer (some ⟨w.heap.size,0,none⟩),.pointer (some ⟨w.heap.size+1,0,none⟩)]) (by simp) (by simp[go_sem]) ?_;refine (LH _ _ _ _ .returning _ LJ).mono ?_;rintro e u' w'' ⟨rfl,rfl,rfl⟩;have WO:=LJ.cell 0;have WQ:=LK.cell 0;simp at WO WQ;refine ⟨.tuple #[.slice A1 ws.length zS,.int .i64 0],by simp[results,Tryz.results174,go_sem,WO,WQ],_,rfl,abC,lF,hkp3⟩
def Bd (w:World) (r:Nat) (v:Value) (bs:List UInt8) (pos:Nat) (e:Ending) (w':World):Prop:=
 e= .returned (.tuple #[.slice none 0 0,.int .i64 5])∧jF w' r v bs pos∧Kept (fun k _=>k=r∨w.heap.size≤k) w w'
set_option maxRecDepth 100000 in
set_option maxHeartbeats 2000000 in
theorem Gw (r b:Nat) (v:Value) (bs:List UInt8) (pos:Nat) (ws:List Nat) (w:World) (h:jF w r v bs pos) (hsm:bs.length≤1000000000) (hws:∀n∈ws,n≤64) (hwl:ws.length≤1000)
 (hb:au w b 3 (iI ws).toArray) (hp:pos≤8*bs.length) (hfit:8*bs.length<pos+ws.sum):
 Calls Tryz.prog 174 #[.pointer (some ⟨r,0,none⟩),.slice (some ⟨b,0,none⟩) ws.length ws.length,.func (.func 175) #[.pointer (some ⟨r,0,none⟩)] #[]] w (Bd w r v bs pos):=by
 obtain ⟨i0,hi,hz0,hz1,hz2⟩:=info_parts Ej;have c1:=h.1.cell 1;simp at c1;have hrl:=h.1.lt;have hbl:=hb.lt;have hrb:b≠r:=by
  rintro rfl;have h1:=h.1;unfold au at h1 hb;rw[h1] at hb;injection hb with hb
  injection hb with _ h2
  exact absurd h2 (by decide)
 have HWS:=Lib.hid hws;have um:=Lib.hid hsm;have HF:=Lib.hid hfit;have HP:=Lib.hid hp;clear hws hsm hfit hp;obtain ⟨N,hN⟩:∃N,ws.length=N:=⟨_,rfl⟩
 rw[hN] at hwl ⊢;have HN:=Lib.hid hN;clear hN;have c1':=(((h.1.alloc (.cells #[.pointer (some ⟨r,0,none⟩)] 216)).alloc (.cells #[.slice none 0 0] 220)).alloc (.cells #[.int .i64 0] 53)).cell 1;simp only[List.getElem?_toArray,List.getElem?_cons_zero,List.getElem?_cons_succ] at c1';have hst:uD w r v bs pos ws 0 ((((w.alloc (.cells #[.pointer (some ⟨r,0,none⟩)] 216)).alloc (.cells #[.slice none 0 0] 220)).alloc (.cells #[.int .i64 0] 53)).alloc (.cells #[.int .i64 pos] 3)) (.slice none 0 0):=by
  refine ⟨(((au.new w _ _).alloc _).alloc _).alloc _,?_,?_,?_,?_,World.ownsRow_nil _ _ _ _,((((Kept.refl _ w).alloc _).alloc _).alloc _).alloc _⟩
  ·simpa using ((au.new (w.alloc (.cells #[.pointer (some ⟨r,0,none⟩)] 216)) 220 #[.slice none 0 0]).alloc (.cells #[.int .i64 0] 53)).alloc (.cells #[.int .i64 pos] 3)
  ·simpa using (au.new ((w.alloc (.cells #[.pointer (some ⟨r,0,none⟩)] 216)).alloc (.cells #[.slice none 0 0] 220)) 53 #[.int .i64 0]).alloc (.cells #[.int .i64 pos] 3)
  ·simpa using au.new (((w.alloc (.cells #[.pointer (some ⟨r,0,none⟩)] 216)).alloc (.cells #[.slice none 0 0] 220)).alloc (.cells #[.int .i64 0] 53)) 3 #[.int .i64 pos]
  ·exact ⟨(((h.1.alloc _).alloc _).alloc _).alloc _,(((h.2.alloc _).alloc _).alloc _).alloc _⟩
 have HST:=Lib.hid hst;clear hst
 go_enter_defers Tryz.func174,Tryz.ntmps174
 go_wp2
 go_loopw [22] (fun i wr=>∃(k:Nat) (vo:Value),k≤N∧i= .int .i64 k∧uD w r v bs pos ws k wr vo∧pos+(ws.take k).sum≤8*bs.length) (fun i _=>N-(intOf i).toNat)
 case atStart=>exact ⟨0,_,Nat.zero_le _,rfl,HST.out,HP.out⟩
 case round=>
  obtain ⟨k,vo,hk,rfl,st,hpk⟩:=hrel;have HPK:=Lib.hid hpk;clear hpk;by_cases hlt:k<N
  ·obtain ⟨n,hn⟩:∃n,ws[k]? =some n:=⟨_,List.getElem?_eq_getElem (by rw[HN.out];exact hlt)⟩
   have O5:=HWS.out n (List.mem_of_getElem? hn);have hsn:=sw ws k n hn;have hga:=vJ bs pos ws k n hn;have hle:=j4 ws (k+1);have hbk:au wr b 3 (iI ws).toArray:=hb.kept st.kp (by rintro (e|e);exact hrb e;omega);have hcb:=hbk.cell k;have Lu:wr.cell? ⟨b,k,none⟩=some (.int .i64 n):=by rw[hcb,List.getElem?_toArray];unfold iI;rw[List.getElem?_map,hn];rfl
   by_cases hfits:pos+(ws.take k).sum+n≤8*bs.length
   ·have hget:=Ct r v bs (pos+(ws.take k).sum) n wr st.rd um.out O5 hfits;have HG:=Lib.hid hget;have Og:=Lib.hid hsn;have Td:=Lib.hid hga;have HFT:=Lib.hid hfits;clear hget hcb hsn hga hle hbk hn hfits;go_wp2_with fail;refine HG.out.mono ?_;rintro e1 w1 ⟨rfl,hr1,hk1⟩;have st1:=st.step hrl hk1;generalize val (aH bs (pos+(ws.take k).sum) n)=x at*;clear HG st Lu;obtain ⟨Gc,zD,rT,Oi,wm,O6⟩:=st1;have co:=zD.cell 0;simp at co;go_wp2_with (at_builtin;refine wpList_append_own _ rfl _ _ 220 rfl w.heap.size 204 i0 (.int .u64 0) 1 8 LG hi hz0 hz1 hz2 rfl (by decide) _ _ _ rfl (wm.alloc _) ⟨w1.heap.size,0,none⟩ 1 1 [.int .u64 x] rfl rfl ?c1 ?c2 ?c3 ?c4 ?c5 ?_)
    case c1=>exact cell_one_new _ _ _
    case c2=>simp[Value.oneCell']
    case c3=>unfold maxLen;omega
    case c4=>omega
    case c5=>have:=O6.size;simp;omega
    intro v' w2 hown' hgrow _;have hin:∀j,vo.ownBlock=some j→w.heap.size≤j:=fun j hj=>(wm.lt j hj).1
    have xR:=(zD.alloc (.cells #[.int .u64 x] 204)).grown hgrow (fun e=>aI wm zD (by decide) e.symm);have Te:=(Gc.alloc (.cells #[.int .u64 x] 204)).grown hgrow (fun e=>aI wm Gc (by decide) e.symm);have Tf:=(rT.alloc (.cells #[.int .u64 x] 204)).grown hgrow (fun e=>aI wm rT (by decide) e.symm);have Tg:=(Oi.alloc (.cells #[.int .u64 x] 204)).grown hgrow (fun e=>aI wm Oi (by decide) e.symm);have hk2:Kept (fun j _=>j=r∨w.heap.size≤j) w w2:=(O6.alloc (.cells #[.int .u64 x] 204)).grown hgrow (fun j hj o _=> .inr (hin j hj));have hr2:jF w2 r v bs (pos+(ws.take k).sum+n):=by
     refine ⟨(hr1.1.alloc _).grown hgrow (fun e=>aI wm hr1.1 (by decide) e.symm),(hr1.2.alloc _).kept hgrow ?_⟩;rcases hq:v.ownBlock with _|j
     ·exact .inl rfl
     ·refine .inr (fun e=> ?_);obtain ⟨o1,ho1,⟨cs1,WL,rfl⟩,_⟩:=bT hr1.2 hq;obtain ⟨o2,ho2,⟨cs2,WM,rfl⟩,_⟩:=bT wm e.symm;rw[ho1] at ho2;cases ho2
    have co2:=xR.cell 0;have fo2:=xR.frozen 0;simp at co2;obtain ⟨g',cap',rfl,hgl,kz⟩:=hown'.form (by omega);go_wp2
    go_roundw
    case rel=>
     refine ⟨k+1,.slice (some ⟨g',0,none⟩) (k+1) cap',by omega,by go_num,⟨Te.far (by simp) _,by simpa using xR.av 0 (.slice (some ⟨g',0,none⟩) (k+1) cap'),Tf.far (by simp<;>omega) _,Tg.far (by simp<;>omega) _,?_,?_,hk2.setCell (p:=⟨w.heap.size+1,0,none⟩) (fun _ _=> .inr (by simp)) _⟩,by rw[Og.out,←Nat.add_assoc];exact HFT.out⟩
     ·rw[Og.out,←Nat.add_assoc];exact ⟨hr2.1.far (by simp<;>omega) _,hr2.2.kept (aM _ _ 0 _) (.inr (aI hr2.2 xR (by decide)))⟩
     ·rw[Td.out];have:=hown'.kept (aM w2 (w.heap.size+1) 0 (.slice (some ⟨g',0,none⟩) (k+1) cap')) (.inr (aI hown' xR (by decide)));simpa[nT] using this
    case measure=>simp[intOf];omega
   ·have hget:=Bc r v bs (pos+(ws.take k).sum) n wr st.rd HPK.out um.out O5 (by have:=HPK.out;omega);have HG:=Lib.hid hget;clear hget hcb hsn hga hle hbk hn hfits;go_wp2_with fail;refine HG.out.mono ?_;rintro e1 w1 ⟨rfl,hr1,hk1⟩;obtain ⟨Gc,zD,rT,Oi,wm,O6⟩:=st.step hrl hk1;clear HG st Lu;have co:=zD.cell 0;have fo:=zD.frozen 0;have ce:=rT.cell 0;have fe:=rT.frozen 0;simp at co ce;have LJ:au ((w1.setCell ⟨w.heap.size+1,0,none⟩ (.slice none 0 0)).setCell ⟨w.heap.size+1+1,0,none⟩ (.int .i64 5)) (w.heap.size+1+1) 53 #[.int .i64 5]:=by
     simpa using (rT.far (p:=⟨w.heap.size+1,0,none⟩) (by simp<;>omega) (.slice none 0 0)).av 0 (.int .i64 5)
    have LK:au ((w1.setCell ⟨w.heap.size+1,0,none⟩ (.slice none 0 0)).setCell ⟨w.heap.size+1+1,0,none⟩ (.int .i64 5)) (w.heap.size+1) 220 #[.slice none 0 0]:=by
     simpa using (zD.av 0 (.slice none 0 0)).far (p:=⟨w.heap.size+1+1,0,none⟩) (by simp<;>omega) (.int .i64 5)
    have abD:=(Gc.far (p:=⟨w.heap.size+1,0,none⟩) (by simp<;>omega) (.slice none 0 0)).far (p:=⟨w.heap.size+1+1,0,none⟩) (by simp<;>omega) (.int .i64 5);have abE:=(Oi.far (p:=⟨w.heap.size+1,0,none⟩) (by simp<;>omega) (.slice none 0 0)).far (p:=⟨w.heap.size+1+1,0,none⟩) (by simp<;>omega) (.int .i64 5);have hkp3:=(O6.setCell (p:=⟨w.heap.size+1,0,none⟩) (fun _ _=> .inr (by simp)) (.slice none 0 0)).setCell (p:=⟨w.heap.size+1+1,0,none⟩) (fun _ _=> .inr (by simp<;>omega)) (.int .i64 5);have lF:jF ((w1.setCell ⟨w.heap.size+1,0,none⟩ (.slice none 0 0)).setCell ⟨w.heap.size+1+1,0,none⟩ (.int .i64 5)) r v bs (pos+(ws.take k).sum):=
     ⟨(hr1.1.far (p:=⟨w.heap.size+1,0,none⟩) (by simp<;>omega) _).far (p:=⟨w.heap.size+1+1,0,none⟩) (by simp<;>omega) _,
      (hr1.2.kept (aM w1 (w.heap.size+1) 0 (.slice none 0 0)) (.inr (aI hr1.2 zD (by decide)))).kept (aM _ (w.heap.size+1+1) 0 (.int .i64 5)) (.inr (aI hr1.2 rT (by decide)))⟩
    go_wp2;refine leaves_cons (f:=205) (args:= #[.pointer (some ⟨w.heap.size+1+1,0,none⟩),.pointer (some ⟨w.heap.size+1+1+1,0,none⟩),.pointer (some ⟨w.heap.size,0,none⟩),.pointer (some ⟨w.heap.size+1,0,none⟩)]) (by simp) (by simp[go_sem]) ?_;refine (JJ _ _ _ _ r pos _ 5 _ _ .returning _ LJ rfl abE abD LK lF.1 (by omega)).mono ?_;rintro e u' w'' ⟨rfl,rfl,rfl⟩;have abF:=(LJ.far (p:=⟨r,1,none⟩) (by simp<;>omega) (.int .i64 pos)).far (p:=⟨w.heap.size+1,0,none⟩) (by simp<;>omega) (.slice none 0 0);have abG:=(LK.far (p:=⟨r,1,none⟩) (by simp<;>omega) (.int .i64 pos)).av 0 (.slice none 0 0);have WO:=abF.cell 0;have WQ:=abG.cell 0;simp at WO WQ;have xS:=lF.move pos;refine ⟨.tuple #[.slice none 0 0,.int .i64 5],by simp[results,Tryz.results174,go_sem,WO,WQ],rfl,⟨xS.1.far (p:=⟨w.heap.size+1,0,none⟩) (by simp<;>omega) _,xS.2.kept (aM _ (w.heap.size+1) 0 (.slice none 0 0)) (.inr (aI xS.2 (LK.far (p:=⟨r,1,none⟩) (by simp<;>omega) (.int .i64 pos)) (by decide)))⟩,(hkp3.setCell (p:=⟨r,1,none⟩) (fun _ _=> .inl rfl) _).setCell (p:=⟨w.heap.size+1,0,none⟩) (fun _ _=> .inr (by simp)) _⟩
  ·have e:ws.take k=ws:=List.take_of_length_le (by rw[HN.out];omega);have:=HPK.out;have:=HF.out;rw[e] at*;omega
theorem mQ (r b:Nat) (v:Value) (bs:List UInt8) (pos:Nat) (ws:List Nat) (w:World) (h:jF w r v bs pos) (hsm:bs.length≤1000000000) (hws:∀n∈ws,n≤64) (hwl:ws.length≤1000)
 (hb:au w b 3 (iI ws).toArray) (hfit:pos+ws.sum≤8*bs.length):
 Calls Tryz.prog 136 #[.pointer (some ⟨r,0,none⟩),.slice (some ⟨b,0,none⟩) ws.length ws.length] w (I1 w r v bs pos ws):=by
 have hE:=O4 r b v bs pos ws w h hsm hws hwl hb hfit;have HE:=Lib.hid hE;clear hE hsm hws;go_enter Tryz.func136,Tryz.ntmps136;go_wp2_with fail;refine HE.out.mono ?_;rintro e w' ⟨vo,rfl,h1,h2,h3⟩;go_wp2
 go_ret2
 exact ⟨vo,rfl,h1,h2,h3⟩
theorem jm (r b:Nat) (v:Value) (bs:List UInt8) (pos:Nat) (ws:List Nat) (w:World) (h:jF w r v bs pos) (hsm:bs.length≤1000000000) (hws:∀n∈ws,n≤64) (hwl:ws.length≤1000)
 (hb:au w b 3 (iI ws).toArray) (hp:pos≤8*bs.length) (hfit:8*bs.length<pos+ws.sum):
 Calls Tryz.prog 136 #[.pointer (some ⟨r,0,none⟩),.slice (some ⟨b,0,none⟩) ws.length ws.length] w (Bd w r v bs pos):=by
 have hE:=Gw r b v bs pos ws w h hsm hws hwl hb hp hfit;have HE:=Lib.hid hE;clear hE hsm hws;go_enter Tryz.func136,Tryz.ntmps136;go_wp2_with fail;refine HE.out.mono ?_;rintro e w' ⟨rfl,h2,h3⟩;go_wp2
 go_ret2
 exact ⟨rfl,h2,h3⟩
end Go.Proofs.YtbhiklnljiehiaaGreat
namespace Go.Proofs.YtbhiklnljiehiaaGreat
open Go.RowKit
def uE:Value→Nat
 | .slice _ n _=>n
 |_=>0
theorem Gx {w:World} {base:Nat} {e:TypeId} {size n:Nat} {v:Value} {xs:List Value} (h:w.ownsRow base e size v n xs):uE v=n:=by
 rcases h.2 with ⟨rfl,h0⟩|⟨g',cap,cur,rfl,_⟩
 ·exact h0.symm
 ·rfl
theorem O7 (V:Nat) (h:V<4096):bits BinOp.and IntKind.u64 (V:Int) 2047=((V%2048:Nat):Int):=by
 have h1:=u64_and_nat V 2047 (by omega) (by omega);have h1':bits BinOp.and IntKind.u64 (V:Int) 2047=((V&&& 2047:Nat):Int):=h1;rw[h1'];have:V&&& 2047=V%2048:=Nat.and_two_pow_sub_one_eq_mod V 11;rw[this]
end Go.Proofs.YtbhiklnljiehiaaGreat
namespace Go.Proofs.YtbhiklnljiehiaaGreat
open Go.RowKit
theorem sD:(Tryz.prog.info? 31).map (fun i=>(i.zero,i.size,i.bytes))=some (some (.slice none 0 0),1,24):=by kernel_rfl
theorem vK:Tryz.prog.underlying 37=some (.slice 31):=by kernel_rfl
theorem Sl.cut {w:World} {B n c k:Nat} {A:Option Addr} {xs:List Value} (h:Sl w B A n c xs) (hk:k≤n):Sl w B (if c=k then A else A.map (·.add k)) (n-k) (c-k) (xs.drop k):=by
 refine ⟨by rw[List.length_drop,h.len],by have:=h.cap;omega,by have:=h.mx;omega,fun hn=> ?_⟩;obtain ⟨ad,rfl,hb,hc⟩:=h.at_ (by omega);have:=h.cap;rw[if_neg (by omega)];refine ⟨ad.add k,rfl,by rw[block_add];exact hb,fun j u hu=> ?_⟩;rw[add_add];exact hc _ u (by rw[←hu,List.getElem?_drop])
def eH (w:World) (base:Nat) (vo:Value) (ps:List (List UInt8)):Prop:=
 ∃vs g cap data,w.ownsRow base 31 1 vo ps.length vs∧w.ownsRow base 5 1 (.slice (some ⟨g,0,none⟩) data.length cap) data.length (bV data)∧
  ∀(i:Nat) (p:List UInt8),ps[i]? =some p→∃off c,vs[i]? =some (Value.slice (some ⟨g,off,none⟩) p.length c)∧p.length≤c∧c≤9223372036854775807∧p=(data.drop off).take p.length
theorem eH.kept {w w':World} {base:Nat} {vo:Value} {ps:List (List UInt8)} (h:eH w base vo ps) (hk:∀k o,base≤k→w.heap[k]? =some o→w'.heap[k]? =some o):eH w' base vo ps:=by
 obtain ⟨vs,g,cap,data,h1,h2,h3⟩:=h;have go:∀{e:TypeId} {v:Value} {n:Nat} {xs:List Value},w.ownsRow base e 1 v n xs→w'.ownsRow base e 1 v n xs:=by
  intro e v n xs hh;rcases hh.2 with ⟨rfl,h0⟩|⟨g',cap,cur,rfl,h1,h2,h3⟩
  ·exact ⟨hh.1,.inl ⟨rfl,h0⟩⟩
  ·exact ⟨hh.1,.inr ⟨g',cap,cur,rfl,h1,hk _ _ h1 h2,h3⟩⟩
 exact ⟨vs,g,cap,data,go h1,go h2,h3⟩
theorem eH.base {w:World} {base base':Nat} {vo:Value} {ps:List (List UInt8)} (h:eH w base vo ps) (hb:base'≤base):eH w base' vo ps:=by
 obtain ⟨vs,g,cap,data,h1,h2,h3⟩:=h;exact ⟨vs,g,cap,data,aR h1 hb,aR h2 hb,h3⟩
theorem eH.WR {w:World} {base:Nat} {vo:Value} {ps:List (List UInt8)} (h:eH w base vo ps):∃A c vs,vo= .slice A ps.length c∧jg w w.heap.size A ps.length c vs ps:=by
 obtain ⟨vs,g,cap,data,h1,h2,h3⟩:=h;obtain ⟨A,c,rfl,hs,_⟩:=aZ h1;refine ⟨A,c,vs,rfl,hs,rfl,fun i p hi=> ?_⟩;obtain ⟨off,ci,e,hc1,hc2,hp⟩:=h3 i p hi;refine ⟨_,ci,e,⟨by simp,hc1,hc2,fun hpos=>⟨_,rfl,(h2.lt g rfl).2,fun j u hu=> ?_⟩⟩⟩;have hj:j<p.length:=by
  have:=(List.getElem?_eq_some_iff.1 hu).1;simpa using this
 have hcell:=h2.cells (g:=g) rfl (off+j) u (by
  unfold bV at hu ⊢;rw[List.getElem?_map] at hu ⊢;rw[hp,List.getElem?_take,if_pos hj,List.getElem?_drop] at hu;exact hu)
 have e2:(⟨g,off,none⟩:Addr).add j=(⟨g,0,none⟩:Addr).add (off+j):=by
  unfold Addr.add;by_cases hj0:j=0
  ·subst hj0;by_cases ho:off=0
   ·simp[ho]
   ·simp[ho]
  ·simp[hj0]
 rw[e2];exact hcell
def iJ (g:Nat) (ls:List Nat) (k:Nat):List Value:=(List.range k).map fun i=> .slice (some ⟨g,(ls.take i).sum,none⟩) (ls[i]?.getD 0) (ls[i]?.getD 0)
theorem zT (g:Nat) (ls:List Nat) (k n:Nat) (h:ls[k]? =some n):iJ g ls (k+1)=iJ g ls k++ [.slice (some ⟨g,(ls.take k).sum,none⟩) n n]:=by
 simp[iJ,List.range_succ,h]
end Go.Proofs.YtbhiklnljiehiaaGreat
namespace Go.Proofs.YtbhiklnljiehiaaGreat
open Go.RowKit
def iR (P:Program) (fn:Func) (c₀:Frame) (cs cs':List Frame) (R:Ending→FrameMode→World→Prop) (e:Exit) (a:Act) (w:World):Prop:=bodyPostS P fn c₀ cs R e a cs' w
theorem kL (er:Int) (w:World):(Instr.typeAssert (.iface 53 (.int .i64 er)) 20 53 true).run Tryz.prog w= .ok (.tuple #[.int .i64 er,.bool true]) w:=by kernel_rfl
end Go.Proofs.YtbhiklnljiehiaaGreat
namespace Go.Proofs.YtbhiklnljiehiaaGreat
open Go.RowKit
end Go.Proofs.YtbhiklnljiehiaaGreat
namespace Go.Proofs.YtbhiklnljiehiaaGreat
open Go.RowKit
theorem und5:Tryz.prog.underlying 5=some (.int .u8):=by kernel_rfl
theorem WS:Tryz.prog.underlying 9=some .string:=by kernel_rfl
theorem Cu {w:World} {B n c:Nat} {A:Option Addr} {l:List UInt8} (h:Sl w B A n c (bV l)):(convert 31 9 (.slice A n c)).run Tryz.prog w= .ok (.string ⟨l.toArray⟩) w:=by
 have hl:l.length=n:=by simpa using h.len
 subst hl;rcases A with _|a
 ·have h0:l.length=0:=by
   rcases Nat.eq_zero_or_pos l.length with h0|h0
   ·exact h0
   ·obtain ⟨_,e,_⟩:=h.at_ h0;cases e
  have:l= []:=List.eq_nil_of_length_eq_zero h0;subst this;exact Lib.run_convert_nil_bytes w 31 9 5 c und29 und5 WS
 ·refine run_convert_bytes_back w 31 9 5 a c l und29 und5 WS (fun j hj=> ?_);obtain ⟨ad,e,_,hc⟩:=h.at_ (by omega);injection e with e
  subst e;refine hc j _ ?_;unfold bV;rw[List.getElem?_map,List.getElem?_eq_getElem hj];rfl
end Go.Proofs.YtbhiklnljiehiaaGreat
namespace Go.Proofs.YtbhiklnljiehiaaGreat
open Go.RowKit
theorem uF {w:World} {b:Nat} {cs:Array Value} {t:TypeId} {fr:Nat × Nat} {xs:List Value} (h:w.heap[b]? =some (.cells cs t fr)) (e:cs.toList=xs) (hn:xs.length≤9223372036854775807):Sl w w.heap.size (some ⟨b,0,none⟩) xs.length xs.length xs:=
 ⟨rfl,Nat.le_refl _,hn,fun _=>⟨_,rfl,lt_of_heap h,fun j u hu=>by rw[←e] at hu;exact World.news_of_block h j u hu⟩⟩
theorem mR (w:World) (o:Obj):(w.alloc o).heap[w.heap.size]? =some o:=heap_alloc_new w o
end Go.Proofs.YtbhiklnljiehiaaGreat
namespace Go.Proofs.YtbhiklnljiehiaaGreat
open Go.RowKit
def O8 (w wr:World):Prop:=∃q,w.drewN q=wr
theorem O8.refl (w:World):O8 w w:=⟨0,rfl⟩
end Go.Proofs.YtbhiklnljiehiaaGreat
namespace Go.Proofs.YtbhiklnljiehiaaGreat
open Go.RowKit
end Go.Proofs.YtbhiklnljiehiaaGreat
namespace Go.Proofs.YtbhiklnljiehiaaGreat
open Go.RowKit
theorem au.three {w:World} {g:Nat} {t:TypeId} {x y z:Value} (b:au w g t #[x,y,z]):w.cell? ⟨g,0,none⟩=some x∧w.cell? ⟨g,1,none⟩=some y∧w.cell? ⟨g,2,none⟩=some z:=
 ⟨b.cell 0,b.cell 1,b.cell 2⟩
end Go.Proofs.YtbhiklnljiehiaaGreat
namespace Go.Proofs.YtbhiklnljiehiaaGreat
section
open Go.RowKit Go.Shelf
attribute [local go_sem] Oper.semAt_some
theorem sF (n:Int):bits .and .i64 n 1023=n%1024:=by
 have h127:(BitVec.ofInt 64 1023).toNat=2 ^ 10-1:=by decide
 have key:(BitVec.ofInt 64 n&&& BitVec.ofInt 64 1023).toNat=(n%((2 ^ 64:Nat):Int)).toNat%2 ^ 10:=by
  rw[BitVec.toNat_and,BitVec.toNat_ofInt,h127,Nat.and_two_pow_sub_one_eq_mod]
 show IntKind.i64.wrap ((BitVec.ofInt 64 n&&& BitVec.ofInt 64 1023).toNat:Nat)=n%1024
 rw[key,IntKind.wrap_i64];omega
section
variable {D F:Nat→Prop} {g:Nat} {c:Cf} {st:Sd} {vq vo:Value} {vs os:List Value} {w:World}
theorem iV (h:dS w D F g c st vq vs vo os) (ht:1≤c.timer):
 Calls Tryz.prog 75 #[.pointer (some ⟨g,0,none⟩)] w fun e w'=>e= .returned (.int .i64 (if st.failed=true then 8 else 0))∧w=w':=by
 have x2:=h.blk.cell 2;have O9:=h.blk.cell 19;simp[dO] at x2 O9;have d0:(c.timer==0)=false:=by simp;omega
 clear h;cases hf:st.failed with
 |true=>
  rw[hf] at O9;go_enter Tryz.func75,Tryz.ntmps75;go_wp2;go_ret;exact ⟨rfl,rfl⟩
 |false=>
  rw[hf] at O9;go_enter Tryz.func75,Tryz.ntmps75;go_wp2;go_ret;exact ⟨rfl,rfl⟩
theorem dS.WR (h:dS w D F g c st vq vs vo os):∃A cc,vq= .slice A st.queue.length cc∧jg w w.heap.size A st.queue.length cc vs st.queue:=by
 obtain ⟨A,cc,e,hs⟩:=h.qr.sl;exact ⟨A,cc,e,hs,rfl,fun i p hi=>let ⟨A',c',e',hs',_⟩:=h.qe i p hi;⟨A',c',e',hs'⟩⟩
theorem dS.Pb (h:dS w D F g c st vq vs vo os):∃A cc,vo= .slice A st.out.length cc∧Sl w w.heap.size A st.out.length cc os:=h.qU.sl
set_option maxHeartbeats 400000 in
theorem Be (h:dS w D F g c st vq vs vo os) (hsum:bM st≤1048576):
 Calls Tryz.prog 102 #[.pointer (some ⟨g,0,none⟩)] w fun e w'=>e= .returned (.int .i64 (bM st:Nat))∧w=w':=by
 have x7:=h.blk.cell 7;simp[dO] at x7;obtain ⟨A,cc,rfl,hs⟩:=h.WR;have hcap:=hs.sl.cap;have hmx:=hs.sl.mx;have HS:=Lib.hid hs;unfold bM at hsum ⊢;have um:=Lib.hid hsum;clear h hs hsum;go_enter Tryz.func102,Tryz.ntmps102;go_wp2
 go_loop [2,10] (fun s i=>∃k:Nat,k≤st.queue.length∧i= .int .i64 k∧s= .int .i64 (ah (st.queue.take k):Nat)) (fun _ i=>st.queue.length-(intOf i).toNat)
 case atStart=>exact ⟨0,Nat.zero_le _,rfl,rfl⟩
 case round=>
  obtain ⟨k,hk,rfl,rfl⟩:=hrel;by_cases hlt:k<st.queue.length
  ·obtain ⟨ad,Ai,ci,rfl,hb,hc,hsl⟩:=HS.out.get hlt;have hs1:=gT st.queue k hlt;have hle1:=Nat.le_trans (dw st.queue (k+1)) um.out;have hcap1:=hsl.cap;have abH:=hsl.mx;generalize st.queue[k]?.getD []=p at*;generalize ah (List.take k st.queue)=S at*;have hle2:S+p.length≤1048576:=by omega
   have AU:=Lib.hid hs1;clear hs1 hle1 hsl;go_wp2
   go_round
   case rel=>exact ⟨k+1,by omega,by go_num,by rw[AU.out];go_num⟩
   case measure=>simp[intOf];omega
  ·have e:st.queue.take k=st.queue:=List.take_of_length_le (by omega);rw[e];clear e;go_wp2;go_ret;exact ⟨rfl,rfl⟩
theorem qi (h:dS w D F g c st vq vs vo os) (h1:st.first<1024) (h2:st.out.length≤1000000):
 Calls Tryz.prog 87 #[.pointer (some ⟨g,0,none⟩)] w fun e w'=>e= .returned (.int .i64 (bJ st:Nat))∧O8 w w':=by
 have uG:=h.blk.cell 11;have El:=h.blk.cell 12;simp[dO] at uG El;obtain ⟨A,cc,rfl,hs⟩:=h.Pb;have hcap:=hs.cap;have hmx:=hs.mx;have hand:bits BinOp.and IntKind.i64 ((st.first:Int)+(st.out.length:Int)) 1023=((bJ st:Nat):Int):=by rw[sF];unfold bJ;omega
 have hsum:IntKind.i64.wrap ((st.first:Int)+(st.out.length:Int))=(st.first:Int)+(st.out.length:Int):=IntWalk.i64_in _ (by omega);have HS:=Lib.hid hsum;have HA:=Lib.hid hand;clear h hs hsum hand;go_enter Tryz.func87,Tryz.ntmps87;go_wp2
 go_quiet (fail)
 go_wp2;go_ret;refine ⟨lN (by first|rw[HS.out,HA.out]|rw[HA.out]),?_⟩;exact ⟨_,rfl⟩
theorem qV (h:dS w D F g c st vq vs vo os) (h1:st.first<1024) (sn:Int) (hs:0≤sn∧sn≤1023):
 Calls Tryz.prog 142 #[.pointer (some ⟨g,0,none⟩),.int .i64 sn] w fun e w'=>e= .returned (.int .i64 (dQ st sn))∧w=w':=by
 have uG:=h.blk.cell 11;simp[dO] at uG;have hand:bits BinOp.and IntKind.i64 (sn-(st.first:Int)) 1023=dQ st sn:=by rw[sF];rfl
 clear h;go_enter Tryz.func142,Tryz.ntmps142;go_wp2;go_ret;exact ⟨rfl,rfl⟩
theorem gI.cells {p:Nat} {x:Ou} {Ap Ar:Option Addr} {cp cr:Nat} {vp:List Value} (h:gI w D F p x Ap cp vp Ar cr):
 w.cell? ⟨p,0,none⟩=some (.int .i64 (x.sn:Nat))∧w.cell? ⟨p,7,none⟩=some (.slice Ap x.ps.length cp)∧w.cell? ⟨p,8,none⟩=some (.int .i64 (aF x:Nat))∧w.cell? ⟨p,9,none⟩=some (.bool x.aV)∧w.cell? ⟨p,10,none⟩=some (.slice Ar x.pend.length cr)∧w.cell? ⟨p,11,none⟩=some (.int .i64 (x.dz:Nat)):=
 ⟨h.blk.cell 0,h.blk.cell 7,h.blk.cell 8,h.blk.cell 9,h.blk.cell 10,h.blk.cell 11⟩
def WT:Option Nat→Int
 |some i=>(i:Int)
 |none=> -1
theorem JK {l:List Ou} {q:Ou→Bool} {k:Nat} {x:Ou} (hx:l[k]? =some x) (hall:∀(j:Nat) (y:Ou),j<k→l[j]? =some y→q y=false) (hq:q x=true):l.findIdx? q=some k:=by
 obtain ⟨hk,rfl⟩:=List.getElem?_eq_some_iff.1 hx;exact List.findIdx?_eq_some_iff_getElem.2 ⟨hk,hq,fun j hj=>by
  have:=hall j l[j] hj (List.getElem?_eq_getElem (by omega));simp[this]⟩
theorem JL {l:List Ou} {q:Ou→Bool} (hall:∀(j:Nat) (y:Ou),l[j]? =some y→q y=false):l.findIdx? q=none:=by
 rw[List.findIdx?_eq_none_iff];intro x hx;obtain ⟨j,hj⟩:=List.mem_iff_getElem?.1 hx;exact hall j x hj
set_option maxRecDepth 10000 in
set_option maxHeartbeats 1000000 in
theorem xU (DT:Nat) (abI:DT=126∨DT=161) (q:Ou→Bool) (h:dS w D F g c st vq vs vo os) (_hn:st.out.length≤1000000)
 (hq:∀p x Ap cp vp Ar cr,gI w D F p x Ap cp vp Ar cr→Calls Tryz.prog DT #[.pointer (some ⟨p,0,none⟩)] w fun e w'=>e= .returned (.bool (q x))∧w=w'):
 Calls Tryz.prog 125 #[vo,.func (.func DT) #[] #[]] w fun e w'=>e= .returned (.int .i64 (WT (st.out.findIdx? q)))∧w=w':=by
 obtain ⟨A,cc,rfl,hs⟩:=h.Pb;have hcap:=hs.cap;have hmx:=hs.mx;have HS:=Lib.hid hs;have HOE:=Lib.hid h.oe;have HQ:=Lib.hid hq;clear h hs hq;rcases abI with rfl|rfl
 all_goals
  go_enter Tryz.func125,Tryz.ntmps125;go_wp2
  go_loop [8] (fun i=>∃k:Nat,k≤st.out.length∧i= .int .i64 k∧∀j y,j<k→st.out[j]? =some y→q y=false) (fun i=>st.out.length-(intOf i).toNat)
  case atStart=>exact ⟨0,Nat.zero_le _,rfl,fun j y hj=>by omega⟩
  case round=>
   obtain ⟨k,hk,rfl,hall⟩:=hrel;have HA:=Lib.hid hall;clear hall;by_cases hlt:k<st.out.length
   ·have hx:st.out[k]? =some st.out[k]:=List.getElem?_eq_getElem hlt;generalize st.out[k]=x at*;obtain ⟨p,Ap,cp,vp,Ar,cr,he,ho⟩:=HOE.out k x hx;obtain ⟨ad,u,rfl,hb,hu,hc⟩:=HS.out.get hlt;rw[he] at hu;cases hu;have hcl:=HQ.out p x Ap cp vp Ar cr ho;have HX:=Lib.hid hx;clear ho he hx;cases VE:q x with
    |false=>
     rw[VE] at hcl;have HQX:=Lib.hid VE;have qP:=Lib.hid hcl;clear VE hcl;go_wp2_with fail;refine qP.out.mono ?_;rintro e1 w1 ⟨rfl,rfl⟩;go_wp2
     go_round
     case rel=>
      refine ⟨k+1,by omega,by go_num,fun j y hj hy=> ?_⟩;rcases Nat.lt_or_ge j k with h1|h1
      ·exact HA.out j y h1 hy
      ·rw[show j=k by omega,HX.out] at hy;cases hy;exact HQX.out
     case measure=>simp[intOf];omega
    |true=>
     rw[VE] at hcl;have hf:=JK HX.out HA.out VE;have HF:=Lib.hid hf;have qP:=Lib.hid hcl;clear VE hcl hf;go_wp2_with fail;refine qP.out.mono ?_;rintro e1 w1 ⟨rfl,rfl⟩;go_wp2;go_ret;exact ⟨by rw[HF.out];rfl,rfl⟩
   ·have hf:st.out.findIdx? q=none:=JL fun j y hy=>HA.out j y (by have:=(List.getElem?_eq_some_iff.1 hy).1;omega) hy
    have HF:=Lib.hid hf;clear hf;go_wp2;go_ret;exact ⟨by rw[HF.out];rfl,rfl⟩
theorem Gy {p:Nat} {x:Ou} {Ap Ar:Option Addr} {cp cr:Nat} {vp:List Value} (h:gI w D F p x Ap cp vp Ar cr):
 Calls Tryz.prog 126 #[.pointer (some ⟨p,0,none⟩)] w fun e w'=>e= .returned (.bool (nP x))∧w=w':=by
 obtain ⟨x0,x7,x8,x9,x10,uG⟩:=h.cells;have hcap:=h.rs.cap;have hmx:=h.rs.mx;have hfin:decide (0<x.pend.length)=nP x:=by
  unfold nP;cases x.pend<;>simp
 have HF:=Lib.hid hfin;clear h hfin x0 x7 x8 x9 uG;go_enter Tryz.func126,Tryz.ntmps126;go_wp2;go_ret;exact ⟨bu HF.out,rfl⟩
def I4 (st:Sd) (os:List Value):Value:=match fZ st.out with
 |some i=>os[i]?.getD (.pointer none)
 |none=> .pointer none
theorem sG (h:dS w D F g c st vq vs vo os) (hn:st.out.length≤1000000):
 Calls Tryz.prog 84 #[.pointer (some ⟨g,0,none⟩)] w fun e w'=>e= .returned (I4 st os)∧w=w':=by
 have hix:=xU 126 (.inl rfl) nP h hn fun p x Ap cp vp Ar cr ho=>Gy ho
 have El:=h.blk.cell 12;simp[dO] at El;have K5:=Lib.hid hix;have HH:=Lib.hid h;clear hix;obtain ⟨A,cc,rfl,hs⟩:=h.Pb;have hcap:=hs.cap;have hmx:=hs.mx;unfold I4;have hp:st.out.findIdx? nP=fZ st.out:=rfl;rw[hp] at K5;cases hpa:fZ st.out with
 |none=>
  rw[hpa] at K5;clear h hs hp hpa;go_enter Tryz.func84,Tryz.ntmps84;go_wp2_with fail;refine K5.out.mono ?_;rintro e1 w1 ⟨rfl,rfl⟩;simp only[WT];go_wp2;go_ret;exact ⟨rfl,rfl⟩
 |some i=>
  rw[hpa] at K5;obtain ⟨x,hx,_⟩:=gW hpa;have hil:=(List.getElem?_eq_some_iff.1 hx).1;obtain ⟨ad,u,rfl,hb,hu,hc⟩:=hs.get hil;have hg:os[i]?.getD (.pointer none)=u:=by rw[hu];rfl
  obtain ⟨p,Ap,cp,vp,Ar,cr,he,ho⟩:=h.oe i x hx;rw[hu] at he;cases he;have HG:=Lib.hid hg;clear h hs hp hpa hx ho hu hg;go_enter Tryz.func84,Tryz.ntmps84;go_wp2_with fail;refine K5.out.mono ?_;rintro e1 w1 ⟨rfl,rfl⟩;simp only[WT];go_wp2;go_ret;exact ⟨by simp only;rw[HG.out];rfl,rfl⟩
end
end
end Go.Proofs.YtbhiklnljiehiaaGreat
