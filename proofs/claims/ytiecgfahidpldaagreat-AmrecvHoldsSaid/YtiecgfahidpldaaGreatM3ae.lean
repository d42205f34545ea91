/- The bit reader: NewReader, Left, Get, At, Align. The bit reader: NewReader, Align; errors that are raised: must, got. The bit reader: each, GetAll. umpdu.Decode: the lengths. umpdu.Decode: the parts. umpdu.Decode: errors are recovered. umpdu.Decode. law30: same, num, few, fails. law30: works, the examples of the chapter. Equality of slices and chunks: slices.Equal, slices.EqualFunc, umpdu.Same, the reference's Same. umpdu.Same and the reference's Same. law30.UmpduSame: the walk. amsend: check, held, next, place, pending, idle. amsend: writes to the transmitter's memory. amsend: what a call leaves of the transmitter's memory. amsend: goes, must, idle, pends, repeats, expires. -/
import Derived.Test.YtiecgfahidpldaaGreatM3aa
import Derived.Test.YtiecgfahidpldaaGreatM3ac
import Derived.Test.YtiecgfahidpldaaGreatM3ad
import Derived.Defers
import Derived.Recover
import Derived.WideLaws
import Derived.Laws.IdiomStrings
import Derived.Laws.BytesArg
import Derived.Lib.SlBytesConst
import Derived.Lib.BufferRead
import Derived.Lib.SmallJoins
import Derived.Deep.RegionHeld3
namespace Go.Proofs.YtiecgfahidpldaaGreat
open Go.RowKit
def qx (w:World) (r:Nat) (v:Value) (bs:List UInt8) (pos:Nat):Prop:=
 aA w r 183 #[v,.int .i64 pos]∧w.ownsRow 0 5 1 v bs.length (cu bs)
theorem qx.drewN {w:World} {r:Nat} {v:Value} {bs:List UInt8} {pos:Nat} (h:qx w r v bs pos) (k:Nat):qx (w.drewN k) r v bs pos:=h
theorem kH {w w':World} {M:Nat→Obj→Prop} {base:Nat} {e:TypeId} {size n:Nat} {v:Value} {xs:List Value} (h:w.ownsRow base e size v n xs) (hk:Kept M w w') (hM:∀k o,JZ o e→v.ownBlock=some k→¬M k o):w'.ownsRow base e size v n xs:=by
 rcases h.2 with ⟨rfl,h0⟩|⟨g',cap,cur,rfl,h1,h2,h3⟩
 ·exact ⟨h.1,.inl ⟨rfl,h0⟩⟩
 ·exact ⟨h.1,.inr ⟨g',cap,cur,rfl,h1,hk.same _ _ h2 (hM _ _ ⟨_,_,rfl⟩ rfl),h3⟩⟩
theorem qx.move {w:World} {r:Nat} {v:Value} {bs:List UInt8} {pos:Nat} (h:qx w r v bs pos) (q:Nat):qx (w.setCell ⟨r,1,none⟩ (.int .i64 q)) r v bs q:=
 ⟨by simpa using h.1.aC 1 (.int .i64 q),h.2.kept (aJ w r 1 _) (.inr (aF h.2 h.1 (by decide)))⟩
theorem Fa (r:Nat) (v:Value) (bs:List UInt8) (pos:Nat) (w:World) (h:qx w r v bs pos) (hp:pos≤8*bs.length) (hsm:bs.length≤1000000000):
 Calls Tryz.prog 151 #[.pointer (some ⟨r,0,none⟩)] w fun e w'=>e= .returned (.int .i64 ((8*bs.length-pos:Nat):Int))∧∃k,w.drewN k=w':=by
 obtain ⟨A,c,rfl,_⟩:=aP h.2;have c0:=h.1.cell 0;have c1:=h.1.cell 1;simp at c0 c1;have e1:(8*(bs.length:Int)-pos)=((8*bs.length-pos:Nat):Int):=by omega
 go_enter Tryz.func151,Tryz.ntmps151;go_wp2
 go_quiet (fail)
 go_wp2;go_ret;refine ⟨mM ?_,_,rfl⟩
 go_num
theorem UN (r:Nat) (v:Value) (bs:List UInt8) (pos:Nat) (w:World) (h:qx w r v bs pos):
 Calls Tryz.prog 118 #[.pointer (some ⟨r,0,none⟩)] w fun e w'=>e= .returned (.int .i64 pos)∧w=w':=by
 have c1:=h.1.cell 1;simp at c1;go_enter Tryz.func118,Tryz.ntmps118;go_wp2;go_ret;exact ⟨rfl,rfl⟩
theorem or_bit (V:Nat) (b:UInt8) (j:Nat) (hV:V<9223372036854775808):
 bits BinOp.or IntKind.u64 ((V:Int)*2) (IntKind.u64.wrap (bits BinOp.and IntKind.u8 ((b.toNat:Int)/2 ^ j) 1))=((2*V+(decide (b.toNat/2 ^ j%2=1)).toNat:Nat):Int):=by
 have hb:b.toNat<256:=b.toNat_lt;have e:(b.toNat:Int)/2 ^ j=((b.toNat/2 ^ j:Nat):Int):=by push_cast;rfl
 have hle:b.toNat/2 ^ j≤b.toNat:=Nat.div_le_self _ _;have h1:=u8_and_nat (b.toNat/2 ^ j) 1 (by omega) (by omega);have h1':bits BinOp.and IntKind.u8 ((b.toNat/2 ^ j:Nat):Int) 1=((b.toNat/2 ^ j&&& 1:Nat):Int):=h1;rw[e,h1',Nat.and_one_is_mod,IntKind.wrap_u64];have hm:=Nat.mod_two_eq_zero_or_one (b.toNat/2 ^ j);generalize b.toNat/2 ^ j%2=x at*;have e2:((x:Nat):Int)%18446744073709551616=((x*2 ^ 0:Nat):Int):=by omega
 have e3:(V:Int)*2=((2*V:Nat):Int):=by omega
 rw[e2,e3,u64_or_nat (2*V) (x*2 ^ 0) (by omega) (by omega),MR (2*V) x 0 (by omega) (by omega)];rcases hm with rfl|rfl<;>simp
def Tf (w:World) (r:Nat) (v:Value) (bs:List UInt8) (x:Nat) (er:Int) (pos:Nat) (e:Ending) (w':World):Prop:=
 e= .returned (.tuple #[.int .u64 x,.int .i64 er])∧qx w' r v bs pos∧Kept (fun k _=>k=r) w w'
set_option maxHeartbeats 400000 in
theorem BU (r:Nat) (v:Value) (bs:List UInt8) (pos n:Nat) (w:World) (h:qx w r v bs pos) (hp:pos≤8*bs.length) (hsm:bs.length≤1000000000) (hn:n≤64) (hs:8*bs.length-pos<n):
 Calls Tryz.prog 115 #[.pointer (some ⟨r,0,none⟩),.int .i64 n] w (Tf w r v bs 0 5 pos):=by
 have hl:=Fa r v bs pos w h hp hsm;have Yg:=Lib.hid hl;generalize 8*bs.length-pos=m at*;clear hl hp hsm;go_enter Tryz.func115,Tryz.ntmps115;go_wp2_with (go_at_call 151;refine Yg.out.mono ?_;rintro e w' ⟨rfl,q,rfl⟩)
 go_ret2
 exact ⟨rfl,h.drewN _,(Kept.refl _ w).drewN _⟩
set_option maxHeartbeats 800000 in
theorem Dr (r:Nat) (v:Value) (bs:List UInt8) (pos n:Nat) (w:World) (h:qx w r v bs pos) (hsm:bs.length≤1000000000) (hn:n≤64) (hs:pos+n≤8*bs.length):
 Calls Tryz.prog 115 #[.pointer (some ⟨r,0,none⟩),.int .i64 n] w (Tf w r v bs (val (aG bs pos n)) 0 (pos+n)):=by
 have hl:=Fa r v bs pos w h (by omega) hsm;have Yg:=Lib.hid hl;obtain ⟨m,hm⟩:∃m,m=8*bs.length-pos:=⟨_,rfl⟩
 rw[←hm] at Yg;have hnm:n≤m:=by omega
 clear hl hm;go_enter Tryz.func115,Tryz.ntmps115;go_wp2_with (go_at_call 151;refine Yg.out.mono ?_;rintro e w' ⟨rfl,q,rfl⟩)
 replace h:=h.drewN q
 have hk0:=(Kept.refl (fun k _=>k=r) w).drewN q;generalize w.drewN q=w1 at*;clear Yg
 go_loopw [4,22] (fun t i wr=>∃k:Nat,k≤n∧i= .int .i64 k∧t= .int .u64 (val (aG bs pos k))∧qx wr r v bs (pos+k)∧Kept (fun k _=>k=r) w wr) (fun _ i _=>n-(intOf i).toNat)
 case atStart=>exact ⟨0,Nat.zero_le _,rfl,rfl,h,hk0⟩
 case round=>
  clear h hk0;obtain ⟨k,hk,rfl,rfl,hr,hkp⟩:=hrel;by_cases hlt:k<n
  ·obtain ⟨A,c,rfl,hsl,_⟩:=aP hr.2;have c0:=hr.1.cell 0;have c1:=hr.1.cell 1;have f1:=hr.1.frozen 1;simp only[List.getElem?_toArray,List.getElem?_cons_zero,List.getElem?_cons_succ] at c0 c1;obtain ⟨ad,u,rfl,hub,hu,hcu⟩:=hsl.get (k:=(pos+k)/8) (by omega);obtain ⟨b,hb⟩:∃b,bs[(pos+k)/8]? =some b:=⟨_,List.getElem?_eq_getElem (by omega)⟩
   have hu':u= .int .u8 (b.toNat:Int):=by
    unfold cu at hu;rw[List.getElem?_map,hb] at hu;simpa[bv] using hu.symm
   subst hu';have hvl:=Di (aG bs pos k);rw[ko] at hvl;have hvs:val (aG bs pos (k+1))=2*val (aG bs pos k)+(wN bs (pos+k)).toNat:=by rw[ER,EP]
   have hbit:wN bs (pos+k)=decide (b.toNat/2 ^ (7-(pos+k)%8)%2=1):=by unfold wN;rw[List.getD_eq_getElem?_getD,hb];rfl
   rw[hbit] at hvs;generalize val (aG bs pos k)=V at*;have adw:V<9223372036854775808:=Nat.lt_of_lt_of_le hvl (by have:=Nat.pow_le_pow_right (n:=2) (by omega) (show k≤63 by omega);simpa using this);have HVS:=Lib.hid hvs;clear hvs hbit hu hb hvl;have hq8:(pos+k)/8<bs.length:=by omega
   have hmv:=hr.move (pos+k+1);have HMV:=Lib.hid hmv;have hk2:=hkp.setCell (p:=⟨r,1,none⟩) (fun _ _=>rfl) (.int .i64 ((pos+k+1:Nat):Int));have uW:=Lib.hid hk2;have hqb:pos+k<10000000000:=by omega
   clear hmv hk2 hr hkp hsl hub;have hq1:(0:Int)≤((pos:Int)+k)/8:=by omega
   have hq2:((pos:Int)+k)/8<bs.length:=by omega
   have hq3:(((pos:Int)+k)/8).toNat=(pos+k)/8:=by omega
   have hob:=or_bit V b (7-(pos+k)%8) adw;rw[←HVS.out] at hob;generalize hV':val (aG bs pos (k+1))=V' at*;have HV':=Lib.hid hV';clear hV';go_wp2
   go_quiet (fail)
   clear hob hq1 hq2 hq3;have f1':(wr.drewN nq).frozen? ⟨r,1,none⟩=false:=f1;have c1':(wr.drewN nq).cell? ⟨r,1,none⟩=some (.int .i64 ((pos:Int)+k)):=by rw[show ((pos:Int)+k)=((pos+k:Nat):Int) by omega];exact c1
   clear f1 c1 c0 hcu;go_wp2
   go_roundw
   case rel=>exact ⟨k+1,by omega,by go_num,by rw[HV'.out],by
    have:=HMV.out;rw[show ((pos+k+1:Nat):Int)=(pos:Int)+k+1 by omega] at this;exact this,by
    have:=uW.out;rw[show ((pos+k+1:Nat):Int)=(pos:Int)+k+1 by omega] at this;exact this.drewN _⟩
   case measure=>simp[intOf];omega
  ·obtain rfl:k=n:=by omega
   go_wp2
   go_ret2
   exact ⟨rfl,hr,hkp⟩
end Go.Proofs.YtiecgfahidpldaaGreat
namespace Go.Proofs.YtiecgfahidpldaaGreat
open Go.RowKit
def M9 (w:World) (bs:List UInt8) (e:Ending) (w':World):Prop:=
 ∃r v,e= .returned (.pointer (some ⟨r,0,none⟩))∧w.heap.size≤r∧qx w' r v bs 0∧Below w.heap.size w w'
theorem AU (A:Option Addr) (n c:Nat) (bs:List UInt8) (w:World) (h:Sl w w.heap.size A n c (cu bs)) (hsm:n≤1000000000):
 Calls Tryz.prog 66 #[.slice A n c] w (M9 w bs):=by
 have hl:bs.length=n:=by simpa using h.len
 have hcl:=jU A n c bs w h hsm;have HC:=Lib.hid hcl;clear hcl hsm;go_enter Tryz.func66,Tryz.ntmps66;go_wp2_with fail;refine HC.out.mono ?_;rintro e w1 ⟨v,rfl,hv,hb⟩;obtain ⟨A1,c1,rfl,hs1,_⟩:=aP hv;go_wp2;go_ret;refine ⟨w1.heap.size,_,rfl,hb.size,⟨aA.new w1 183 _,?_⟩,hb.alloc hb.size _⟩;rw[hl];exact aW (hv.alloc _) (Nat.zero_le _)
abbrev raise (er:Int):Ending:= .panicked [{v:= .iface 35 (.int .i64 er),recovered:=false}]
def Qu (w:World) (r:Nat) (v:Value) (bs:List UInt8) (er:Int) (pos:Nat) (e:Ending) (w':World):Prop:=
 e= .returned (.int .i64 er)∧qx w' r v bs pos∧Kept (fun k _=>k=r) w w'
set_option maxHeartbeats 400000 in
theorem Iu (r:Nat) (v:Value) (bs:List UInt8) (pos:Nat) (w:World) (h:qx w r v bs pos) (hsm:bs.length≤1000000000) (hp:pos≤8*bs.length):
 Calls Tryz.prog 117 #[.pointer (some ⟨r,0,none⟩)] w (Qu w r v bs (if val (aG bs pos (kT pos))=0 then 0 else 9) (if val (aG bs pos (kT pos))=0 then pos+kT pos else pos)):=by
 have hn8:kT pos<8:=by unfold kT;omega
 have hfit:pos+kT pos≤8*bs.length:=by unfold kT;omega
 have hg:=Dr r v bs pos (kT pos) w h hsm (by omega) hfit;have c1:=h.1.cell 1;simp at c1;have UO:(8-(pos:Int)%8)%8=(kT pos:Int):=by unfold kT;omega
 have HG:=Lib.hid hg;generalize kT pos=n at*;generalize val (aG bs pos n)=V at*;have hps:pos<10000000000:=by omega
 clear hg hfit hsm;by_cases hV:V=0
 ·subst hV;simp only[if_true];go_enter Tryz.func117,Tryz.ntmps117;go_wp2_with fail;refine HG.out.mono ?_;rintro e w1 ⟨rfl,hr1,hk1⟩;go_wp2;go_ret;exact ⟨rfl,hr1,hk1⟩
 ·have hV':((V:Int) !=0)=true:=by simp;omega
  simp only[if_neg hV];go_enter Tryz.func117,Tryz.ntmps117;go_wp2_with fail;refine HG.out.mono ?_;rintro e w1 ⟨rfl,hr1,hk1⟩;have c1:=hr1.1.cell 1;have f1:=hr1.1.frozen 1;simp at c1;have e1:((pos:Int)+n)-n=pos:=by omega
  go_wp2;go_ret;exact ⟨rfl,hr1.move pos,hk1.setCell (p:=⟨r,1,none⟩) (fun _ _=>rfl) _⟩
end Go.Proofs.YtiecgfahidpldaaGreat
namespace Go.Proofs.YtiecgfahidpldaaGreat
open Go.RowKit
theorem Fb:(Tryz.prog.info? 133).map (fun i=>(i.zero,i.size,i.bytes))=some (some (.int .u64 0),1,8):=by kernel_rfl
theorem Na:Tryz.prog.underlying 129=some (.slice 133):=by kernel_rfl
def getAll (bs:List UInt8) (pos:Nat) (ws:List Nat):List Nat:=(List.range ws.length).map fun i=>val (aG bs (pos+(ws.take i).sum) (ws[i]?.getD 0))
def Dt (l:List Nat):List Value:=l.map fun (x:Nat)=>Value.int .u64 (x:Int)
def jE (l:List Nat):List Value:=l.map fun (x:Nat)=>Value.int .i64 (x:Int)
theorem vU (bs:List UInt8) (pos:Nat) (ws:List Nat) (k n:Nat) (h:ws[k]? =some n):getAll bs pos (ws.take (k+1))=getAll bs pos (ws.take k)++ [val (aG bs (pos+(ws.take k).sum) n)]:=by
 have hk:k<ws.length:=(List.getElem?_eq_some_iff.1 h).1;unfold getAll;have e1:(ws.take (k+1)).length=k+1:=by simp;omega
 have e2:(ws.take k).length=k:=by simp;omega
 rw[e1,e2,List.range_succ,List.map_append]
 congr 1
 ·apply List.map_congr_left;intro i hi;rw[List.mem_range] at hi;rw[List.take_take,List.take_take,List.getElem?_take,List.getElem?_take,if_pos (by omega),if_pos hi,Nat.min_eq_left (by omega),Nat.min_eq_left (by omega)]
 ·simp only[List.map_cons,List.map_nil];rw[List.take_take,List.getElem?_take,if_pos (by omega),Nat.min_eq_left (by omega),h];rfl
theorem sU (ws:List Nat) (k n:Nat) (h:ws[k]? =some n):(ws.take (k+1)).sum=(ws.take k).sum+n:=by
 rw[List.take_add_one,h,List.sum_append];simp
theorem kI (ws:List Nat) (k:Nat):(ws.take k).sum≤ws.sum:=by
 conv=>rhs;rw[←List.take_append_drop k ws]
 rw[List.sum_append];omega
theorem Nb (be bf br bo:Nat) (u:FrameMode) (w:World) (he:aA w be 35 #[.int .i64 0]):
 CallsD Tryz.prog 150 #[.pointer (some ⟨be,0,none⟩),.pointer (some ⟨bf,0,none⟩),.pointer (some ⟨br,0,none⟩),.pointer (some ⟨bo,0,none⟩)] u w fun e u' w'=>u'=u∧(e= .returned (.tuple #[])∧w=w'):=by
 have c0:=he.cell 0;simp at c0
 go_enter_d Tryz.func150,Tryz.ntmps150
 go_wp2
 go_end0
 exact ⟨rfl,rfl⟩
theorem KR (be bf br bo r pos q:Nat) (er:Int) (vo v0:Value) (u:FrameMode) (w:World) (he:aA w be 35 #[.int .i64 er]) (her:(er !=0)=true) (hf:aA w bf 3 #[.int .i64 pos]) (hr:aA w br 125 #[.pointer (some ⟨r,0,none⟩)])
 (ho:aA w bo 129 #[vo]) (hrr:aA w r 183 #[v0,.int .i64 q]) (hne:bo≠r):
 CallsD Tryz.prog 150 #[.pointer (some ⟨be,0,none⟩),.pointer (some ⟨bf,0,none⟩),.pointer (some ⟨br,0,none⟩),.pointer (some ⟨bo,0,none⟩)] u w fun e u' w'=>u'=u∧(e= .returned (.tuple #[])∧(w.setCell ⟨r,1,none⟩ (.int .i64 pos)).setCell ⟨bo,0,none⟩ (.slice none 0 0)=w'):=by
 have c0:=he.cell 0;have c1:=hf.cell 0;have c2:=hr.cell 0;have c3:=ho.cell 0;have f3:=ho.frozen 0;have c4:=hrr.cell 1;have f4:=hrr.frozen 1;simp at c0 c1 c2 c3 c4;have c3':(w.setCell ⟨r,1,none⟩ (.int .i64 pos)).cell? ⟨bo,0,none⟩=some vo:=by
  have:=(ho.far (p:=⟨r,1,none⟩) hne (.int .i64 pos)).cell 0;simpa using this
 have f3':(w.setCell ⟨r,1,none⟩ (.int .i64 pos)).frozen? ⟨bo,0,none⟩=false:=(ho.far (p:=⟨r,1,none⟩) hne (.int .i64 pos)).frozen 0
 go_enter_d Tryz.func150,Tryz.ntmps150
 go_wp2
 go_end0
 exact ⟨rfl,rfl⟩
structure uX (w:World) (r:Nat) (v:Value) (bs:List UInt8) (pos:Nat) (ws:List Nat) (k:Nat) (wr:World) (vo:Value):Prop where
 br:aA wr w.heap.size 125 #[.pointer (some ⟨r,0,none⟩)]
 bo:aA wr (w.heap.size+1) 129 #[vo]
 be:aA wr (w.heap.size+1+1) 35 #[.int .i64 0]
 bf:aA wr (w.heap.size+1+1+1) 3 #[.int .i64 pos]
 rd:qx wr r v bs (pos+(ws.take k).sum)
 ow:wr.ownsRow w.heap.size 133 1 vo k (Dt (getAll bs pos (ws.take k)))
 kp:Kept (fun j _=>j=r∨w.heap.size≤j) w wr
theorem uX.step {w:World} {r:Nat} {v:Value} {bs:List UInt8} {pos:Nat} {ws:List Nat} {k:Nat} {wr w1:World} {vo:Value} (st:uX w r v bs pos ws k wr vo) (hr:r<w.heap.size) (hk:Kept (fun j _=>j=r) wr w1):
 aA w1 w.heap.size 125 #[.pointer (some ⟨r,0,none⟩)]∧aA w1 (w.heap.size+1) 129 #[vo]∧aA w1 (w.heap.size+1+1) 35 #[.int .i64 0]∧aA w1 (w.heap.size+1+1+1) 3 #[.int .i64 pos]∧
  w1.ownsRow w.heap.size 133 1 vo k (Dt (getAll bs pos (ws.take k)))∧Kept (fun j _=>j=r∨w.heap.size≤j) w w1:=
 ⟨st.br.kept hk (by omega),st.bo.kept hk (by omega),st.be.kept hk (by omega),st.bf.kept hk (by omega),kH st.ow hk (fun j o _ hj e=>by have:=(st.ow.lt j hj).1;omega),st.kp.trans (hk.mono fun _ _ e=> .inl e)⟩
def J6 (w:World) (r:Nat) (v:Value) (bs:List UInt8) (pos:Nat) (ws:List Nat) (e:Ending) (w':World):Prop:=
 ∃vo,e= .returned (.tuple #[vo,.int .i64 0])∧w'.ownsRow w.heap.size 133 1 vo ws.length (Dt (getAll bs pos ws))∧qx w' r v bs (pos+ws.sum)∧Kept (fun k _=>k=r∨w.heap.size≤k) w w'
set_option maxRecDepth 100000 in
set_option maxHeartbeats 2000000 in
theorem Qv (r b:Nat) (v:Value) (bs:List UInt8) (pos:Nat) (ws:List Nat) (w:World) (h:qx w r v bs pos) (hsm:bs.length≤1000000000) (hws:∀n∈ws,n≤64) (hwl:ws.length≤1000)
 (hb:aA w b 3 (jE ws).toArray) (hfit:pos+ws.sum≤8*bs.length):
 Calls Tryz.prog 114 #[.pointer (some ⟨r,0,none⟩),.slice (some ⟨b,0,none⟩) ws.length ws.length,.func (.func 115) #[.pointer (some ⟨r,0,none⟩)] #[]] w (J6 w r v bs pos ws):=by
 obtain ⟨i0,hi,hz0,hz1,hz2⟩:=info_parts Fb;have c1:=h.1.cell 1;simp at c1;have hrl:=h.1.lt;have hbl:=hb.lt;have hrb:b≠r:=by
  rintro rfl;have h1:=h.1;unfold aA at h1 hb;rw[h1] at hb;injection hb with hb
  injection hb with _ h2
  exact absurd h2 (by decide)
 have HWS:=Lib.hid hws;have sN:=Lib.hid hsm;have HF:=Lib.hid hfit;clear hws hsm hfit;obtain ⟨N,hN⟩:∃N,ws.length=N:=⟨_,rfl⟩
 rw[hN] at hwl ⊢;have HN:=Lib.hid hN;clear hN;have c1':=(((h.1.alloc (.cells #[.pointer (some ⟨r,0,none⟩)] 125)).alloc (.cells #[.slice none 0 0] 129)).alloc (.cells #[.int .i64 0] 35)).cell 1;simp only[List.getElem?_toArray,List.getElem?_cons_zero,List.getElem?_cons_succ] at c1';have hst:uX w r v bs pos ws 0 ((((w.alloc (.cells #[.pointer (some ⟨r,0,none⟩)] 125)).alloc (.cells #[.slice none 0 0] 129)).alloc (.cells #[.int .i64 0] 35)).alloc (.cells #[.int .i64 pos] 3)) (.slice none 0 0):=by
  refine ⟨(((aA.new w _ _).alloc _).alloc _).alloc _,?_,?_,?_,?_,World.ownsRow_nil _ _ _ _,((((Kept.refl _ w).alloc _).alloc _).alloc _).alloc _⟩
  ·simpa using ((aA.new (w.alloc (.cells #[.pointer (some ⟨r,0,none⟩)] 125)) 129 #[.slice none 0 0]).alloc (.cells #[.int .i64 0] 35)).alloc (.cells #[.int .i64 pos] 3)
  ·simpa using (aA.new ((w.alloc (.cells #[.pointer (some ⟨r,0,none⟩)] 125)).alloc (.cells #[.slice none 0 0] 129)) 35 #[.int .i64 0]).alloc (.cells #[.int .i64 pos] 3)
  ·simpa using aA.new (((w.alloc (.cells #[.pointer (some ⟨r,0,none⟩)] 125)).alloc (.cells #[.slice none 0 0] 129)).alloc (.cells #[.int .i64 0] 35)) 3 #[.int .i64 pos]
  ·exact ⟨(((h.1.alloc _).alloc _).alloc _).alloc _,(((h.2.alloc _).alloc _).alloc _).alloc _⟩
 have HST:=Lib.hid hst;clear hst
 go_enter_defers Tryz.func114,Tryz.ntmps114
 go_wp2
 go_loopw [22] (fun i wr=>∃(k:Nat) (vo:Value),k≤N∧i= .int .i64 k∧uX w r v bs pos ws k wr vo) (fun i _=>N-(intOf i).toNat)
 case atStart=>exact ⟨0,_,Nat.zero_le _,rfl,HST.out⟩
 case round=>
  obtain ⟨k,vo,hk,rfl,st⟩:=hrel;by_cases hlt:k<N
  ·obtain ⟨n,hn⟩:∃n,ws[k]? =some n:=⟨_,List.getElem?_eq_getElem (by rw[HN.out];exact hlt)⟩
   have Qw:=HWS.out n (List.mem_of_getElem? hn);have hsn:=sU ws k n hn;have hga:=vU bs pos ws k n hn;have hle:=kI ws (k+1);have hbk:aA wr b 3 (jE ws).toArray:=hb.kept st.kp (by rintro (e|e);exact hrb e;omega);have hcb:=hbk.cell k;have MY:wr.cell? ⟨b,k,none⟩=some (.int .i64 n):=by rw[hcb,List.getElem?_toArray];unfold jE;rw[List.getElem?_map,hn];rfl
   have hget:=Dr r v bs (pos+(ws.take k).sum) n wr st.rd sN.out Qw (by have:=HF.out;omega);have HG:=Lib.hid hget;have PW:=Lib.hid hsn;have Nc:=Lib.hid hga;clear hget hcb hsn hga hle hbk hn;go_wp2_with fail;refine HG.out.mono ?_;rintro e1 w1 ⟨rfl,hr1,hk1⟩;have st1:=st.step hrl hk1;generalize val (aG bs (pos+(ws.take k).sum) n)=x at*;clear HG st MY;obtain ⟨Hq,Ae,yx,Tg,wQ,Qx⟩:=st1;have co:=Ae.cell 0;simp at co;go_wp2_with (at_builtin;refine wpList_append_own _ rfl _ _ 129 rfl w.heap.size 133 i0 (.int .u64 0) 1 8 Na hi hz0 hz1 hz2 rfl (by decide) _ _ _ rfl (wQ.alloc _) ⟨w1.heap.size,0,none⟩ 1 1 [.int .u64 x] rfl rfl ?c1 ?c2 ?c3 ?c4 ?c5 ?_)
   case c1=>exact cell_one_new _ _ _
   case c2=>simp[Value.oneCell']
   case c3=>unfold maxLen;omega
   case c4=>omega
   case c5=>have:=Qx.size;simp;omega
   intro v' w2 hown' hgrow _;have hin:∀j,vo.ownBlock=some j→w.heap.size≤j:=fun j hj=>(wQ.lt j hj).1
   have yA:=(Ae.alloc (.cells #[.int .u64 x] 133)).grown hgrow (fun e=>aF wQ Ae (by decide) e.symm);have UQ:=(Hq.alloc (.cells #[.int .u64 x] 133)).grown hgrow (fun e=>aF wQ Hq (by decide) e.symm);have UR:=(yx.alloc (.cells #[.int .u64 x] 133)).grown hgrow (fun e=>aF wQ yx (by decide) e.symm);have US:=(Tg.alloc (.cells #[.int .u64 x] 133)).grown hgrow (fun e=>aF wQ Tg (by decide) e.symm);have hk2:Kept (fun j _=>j=r∨w.heap.size≤j) w w2:=(Qx.alloc (.cells #[.int .u64 x] 133)).grown hgrow (fun j hj o _=> .inr (hin j hj));have hr2:qx w2 r v bs (pos+(ws.take k).sum+n):=by
    refine ⟨(hr1.1.alloc _).grown hgrow (fun e=>aF wQ hr1.1 (by decide) e.symm),(hr1.2.alloc _).kept hgrow ?_⟩;rcases hq:v.ownBlock with _|j
    ·exact .inl rfl
    ·refine .inr (fun e=> ?_);obtain ⟨o1,ho1,⟨cs1,Yh,rfl⟩,_⟩:=bV hr1.2 hq;obtain ⟨o2,ho2,⟨cs2,Yi,rfl⟩,_⟩:=bV wQ e.symm;rw[ho1] at ho2;cases ho2
   have co2:=yA.cell 0;have fo2:=yA.frozen 0;simp at co2;obtain ⟨g',cap',rfl,hgl,lN⟩:=hown'.form (by omega);go_wp2
   go_roundw
   case rel=>
    refine ⟨k+1,.slice (some ⟨g',0,none⟩) (k+1) cap',by omega,by go_num,⟨UQ.far (by simp) _,by simpa using yA.aC 0 (.slice (some ⟨g',0,none⟩) (k+1) cap'),UR.far (by simp<;>omega) _,US.far (by simp<;>omega) _,?_,?_,hk2.setCell (p:=⟨w.heap.size+1,0,none⟩) (fun _ _=> .inr (by simp)) _⟩⟩
    ·rw[PW.out,←Nat.add_assoc];exact ⟨hr2.1.far (by simp<;>omega) _,hr2.2.kept (aJ _ _ 0 _) (.inr (aF hr2.2 yA (by decide)))⟩
    ·rw[Nc.out];have:=hown'.kept (aJ w2 (w.heap.size+1) 0 (.slice (some ⟨g',0,none⟩) (k+1) cap')) (.inr (aF hown' yA (by decide)));simpa[Dt] using this
   case measure=>simp[intOf];omega
  ·have e:ws.take k=ws:=List.take_of_length_le (by rw[HN.out];omega);obtain ⟨Hq,Ae,yx,Tg,Yj,wQ,Qx⟩:=st;rw[e] at Yj wQ;have hkN:k=N:=by omega
   rw[hkN,←HN.out] at wQ;clear e hkN;obtain ⟨A1,AV,rfl,hs1,_⟩:=aP wQ;have co:=Ae.cell 0;have fo:=Ae.frozen 0;have ce:=yx.cell 0;have fe:=yx.frozen 0;simp at co ce;have Nf:aA ((wr.setCell ⟨w.heap.size+1,0,none⟩ (.slice A1 ws.length AV)).setCell ⟨w.heap.size+1+1,0,none⟩ (.int .i64 0)) (w.heap.size+1+1) 35 #[.int .i64 0]:=by
    simpa using (yx.far (p:=⟨w.heap.size+1,0,none⟩) (by simp<;>omega) (.slice A1 ws.length AV)).aC 0 (.int .i64 0)
   have Ng:aA ((wr.setCell ⟨w.heap.size+1,0,none⟩ (.slice A1 ws.length AV)).setCell ⟨w.heap.size+1+1,0,none⟩ (.int .i64 0)) (w.heap.size+1) 129 #[.slice A1 ws.length AV]:=by
    simpa using (Ae.aC 0 (.slice A1 ws.length AV)).far (p:=⟨w.heap.size+1+1,0,none⟩) (by simp<;>omega) (.int .i64 0)
   have hkp3:=(Qx.setCell (p:=⟨w.heap.size+1,0,none⟩) (fun _ _=> .inr (by simp)) (.slice A1 ws.length AV)).setCell (p:=⟨w.heap.size+1+1,0,none⟩) (fun _ _=> .inr (by simp<;>omega)) (.int .i64 0);have adA:=(wQ.kept (aJ wr (w.heap.size+1) 0 (.slice A1 ws.length AV)) (.inr (aF wQ Ae (by decide)))).kept (aJ _ (w.heap.size+1+1) 0 (.int .i64 0)) (.inr (aF wQ yx (by decide)));have AX:qx ((wr.setCell ⟨w.heap.size+1,0,none⟩ (.slice A1 ws.length AV)).setCell ⟨w.heap.size+1+1,0,none⟩ (.int .i64 0)) r v bs (pos+ws.sum):=
    ⟨(Yj.1.far (p:=⟨w.heap.size+1,0,none⟩) (by simp<;>omega) _).far (p:=⟨w.heap.size+1+1,0,none⟩) (by simp<;>omega) _,
     (Yj.2.kept (aJ wr (w.heap.size+1) 0 (.slice A1 ws.length AV)) (.inr (aF Yj.2 Ae (by decide)))).kept (aJ _ (w.heap.size+1+1) 0 (.int .i64 0)) (.inr (aF Yj.2 yx (by decide)))⟩
   go_wp2;refine leaves_cons (f:=150) (args:= #[.pointer (some ⟨w.heap.size+1+1,0,none⟩),.pointer (some ⟨w.heap.size+1+1+1,0,none⟩),.pointer (some ⟨w.heap.size,0,none⟩),.pointer (some ⟨w.heap.size+1,0,none⟩)]) (by simp) (by simp[go_sem]) ?_;refine (Nb _ _ _ _ .returning _ Nf).mono ?_;rintro e u' w'' ⟨rfl,rfl,rfl⟩;have Yk:=Nf.cell 0;have Yl:=Ng.cell 0;simp at Yk Yl;refine ⟨.tuple #[.slice A1 ws.length AV,.int .i64 0],by simp[results,Tryz.results114,go_sem,Yk,Yl],_,rfl,adA,AX,hkp3⟩
def BV (w:World) (r:Nat) (v:Value) (bs:List UInt8) (pos:Nat) (e:Ending) (w':World):Prop:=
 e= .returned (.tuple #[.slice none 0 0,.int .i64 5])∧qx w' r v bs pos∧Kept (fun k _=>k=r∨w.heap.size≤k) w w'
set_option maxRecDepth 100000 in
set_option maxHeartbeats 2000000 in
theorem Iv (r b:Nat) (v:Value) (bs:List UInt8) (pos:Nat) (ws:List Nat) (w:World) (h:qx w r v bs pos) (hsm:bs.length≤1000000000) (hws:∀n∈ws,n≤64) (hwl:ws.length≤1000)
 (hb:aA w b 3 (jE ws).toArray) (hp:pos≤8*bs.length) (hfit:8*bs.length<pos+ws.sum):
 Calls Tryz.prog 114 #[.pointer (some ⟨r,0,none⟩),.slice (some ⟨b,0,none⟩) ws.length ws.length,.func (.func 115) #[.pointer (some ⟨r,0,none⟩)] #[]] w (BV w r v bs pos):=by
 obtain ⟨i0,hi,hz0,hz1,hz2⟩:=info_parts Fb;have c1:=h.1.cell 1;simp at c1;have hrl:=h.1.lt;have hbl:=hb.lt;have hrb:b≠r:=by
  rintro rfl;have h1:=h.1;unfold aA at h1 hb;rw[h1] at hb;injection hb with hb
  injection hb with _ h2
  exact absurd h2 (by decide)
 have HWS:=Lib.hid hws;have sN:=Lib.hid hsm;have HF:=Lib.hid hfit;have HP:=Lib.hid hp;clear hws hsm hfit hp;obtain ⟨N,hN⟩:∃N,ws.length=N:=⟨_,rfl⟩
 rw[hN] at hwl ⊢;have HN:=Lib.hid hN;clear hN;have c1':=(((h.1.alloc (.cells #[.pointer (some ⟨r,0,none⟩)] 125)).alloc (.cells #[.slice none 0 0] 129)).alloc (.cells #[.int .i64 0] 35)).cell 1;simp only[List.getElem?_toArray,List.getElem?_cons_zero,List.getElem?_cons_succ] at c1';have hst:uX w r v bs pos ws 0 ((((w.alloc (.cells #[.pointer (some ⟨r,0,none⟩)] 125)).alloc (.cells #[.slice none 0 0] 129)).alloc (.cells #[.int .i64 0] 35)).alloc (.cells #[.int .i64 pos] 3)) (.slice none 0 0):=by
  refine ⟨(((aA.new w _ _).alloc _).alloc _).alloc _,?_,?_,?_,?_,World.ownsRow_nil _ _ _ _,((((Kept.refl _ w).alloc _).alloc _).alloc _).alloc _⟩
  ·simpa using ((aA.new (w.alloc (.cells #[.pointer (some ⟨r,0,none⟩)] 125)) 129 #[.slice none 0 0]).alloc (.cells #[.int .i64 0] 35)).alloc (.cells #[.int .i64 pos] 3)
  ·simpa using (aA.new ((w.alloc (.cells #[.pointer (some ⟨r,0,none⟩)] 125)).alloc (.cells #[.slice none 0 0] 129)) 35 #[.int .i64 0]).alloc (.cells #[.int .i64 pos] 3)
  ·simpa using aA.new (((w.alloc (.cells #[.pointer (some ⟨r,0,none⟩)] 125)).alloc (.cells #[.slice none 0 0] 129)).alloc (.cells #[.int .i64 0] 35)) 3 #[.int .i64 pos]
  ·exact ⟨(((h.1.alloc _).alloc _).alloc _).alloc _,(((h.2.alloc _).alloc _).alloc _).alloc _⟩
 have HST:=Lib.hid hst;clear hst
 go_enter_defers Tryz.func114,Tryz.ntmps114
 go_wp2
 go_loopw [22] (fun i wr=>∃(k:Nat) (vo:Value),k≤N∧i= .int .i64 k∧uX w r v bs pos ws k wr vo∧pos+(ws.take k).sum≤8*bs.length) (fun i _=>N-(intOf i).toNat)
 case atStart=>exact ⟨0,_,Nat.zero_le _,rfl,HST.out,HP.out⟩
 case round=>
  obtain ⟨k,vo,hk,rfl,st,hpk⟩:=hrel;have HPK:=Lib.hid hpk;clear hpk;by_cases hlt:k<N
  ·obtain ⟨n,hn⟩:∃n,ws[k]? =some n:=⟨_,List.getElem?_eq_getElem (by rw[HN.out];exact hlt)⟩
   have Qw:=HWS.out n (List.mem_of_getElem? hn);have hsn:=sU ws k n hn;have hga:=vU bs pos ws k n hn;have hle:=kI ws (k+1);have hbk:aA wr b 3 (jE ws).toArray:=hb.kept st.kp (by rintro (e|e);exact hrb e;omega);have hcb:=hbk.cell k;have MY:wr.cell? ⟨b,k,none⟩=some (.int .i64 n):=by rw[hcb,List.getElem?_toArray];unfold jE;rw[List.getElem?_map,hn];rfl
   by_cases hfits:pos+(ws.take k).sum+n≤8*bs.length
   ·have hget:=Dr r v bs (pos+(ws.take k).sum) n wr st.rd sN.out Qw hfits;have HG:=Lib.hid hget;have PW:=Lib.hid hsn;have Nc:=Lib.hid hga;have HFT:=Lib.hid hfits;clear hget hcb hsn hga hle hbk hn hfits;go_wp2_with fail;refine HG.out.mono ?_;rintro e1 w1 ⟨rfl,hr1,hk1⟩;have st1:=st.step hrl hk1;generalize val (aG bs (pos+(ws.take k).sum) n)=x at*;clear HG st MY;obtain ⟨Hq,Ae,yx,Tg,wQ,Qx⟩:=st1;have co:=Ae.cell 0;simp at co;go_wp2_with (at_builtin;refine wpList_append_own _ rfl _ _ 129 rfl w.heap.size 133 i0 (.int .u64 0) 1 8 Na hi hz0 hz1 hz2 rfl (by decide) _ _ _ rfl (wQ.alloc _) ⟨w1.heap.size,0,none⟩ 1 1 [.int .u64 x] rfl rfl ?c1 ?c2 ?c3 ?c4 ?c5 ?_)
    case c1=>exact cell_one_new _ _ _
    case c2=>simp[Value.oneCell']
    case c3=>unfold maxLen;omega
    case c4=>omega
    case c5=>have:=Qx.size;simp;omega
    intro v' w2 hown' hgrow _;have hin:∀j,vo.ownBlock=some j→w.heap.size≤j:=fun j hj=>(wQ.lt j hj).1
    have yA:=(Ae.alloc (.cells #[.int .u64 x] 133)).grown hgrow (fun e=>aF wQ Ae (by decide) e.symm);have UQ:=(Hq.alloc (.cells #[.int .u64 x] 133)).grown hgrow (fun e=>aF wQ Hq (by decide) e.symm);have UR:=(yx.alloc (.cells #[.int .u64 x] 133)).grown hgrow (fun e=>aF wQ yx (by decide) e.symm);have US:=(Tg.alloc (.cells #[.int .u64 x] 133)).grown hgrow (fun e=>aF wQ Tg (by decide) e.symm);have hk2:Kept (fun j _=>j=r∨w.heap.size≤j) w w2:=(Qx.alloc (.cells #[.int .u64 x] 133)).grown hgrow (fun j hj o _=> .inr (hin j hj));have hr2:qx w2 r v bs (pos+(ws.take k).sum+n):=by
     refine ⟨(hr1.1.alloc _).grown hgrow (fun e=>aF wQ hr1.1 (by decide) e.symm),(hr1.2.alloc _).kept hgrow ?_⟩;rcases hq:v.ownBlock with _|j
     ·exact .inl rfl
     ·refine .inr (fun e=> ?_);obtain ⟨o1,ho1,⟨cs1,Yh,rfl⟩,_⟩:=bV hr1.2 hq;obtain ⟨o2,ho2,⟨cs2,Yi,rfl⟩,_⟩:=bV wQ e.symm;rw[ho1] at ho2;cases ho2
    have co2:=yA.cell 0;have fo2:=yA.frozen 0;simp at co2;obtain ⟨g',cap',rfl,hgl,lN⟩:=hown'.form (by omega);go_wp2
    go_roundw
    case rel=>
     refine ⟨k+1,.slice (some ⟨g',0,none⟩) (k+1) cap',by omega,by go_num,⟨UQ.far (by simp) _,by simpa using yA.aC 0 (.slice (some ⟨g',0,none⟩) (k+1) cap'),UR.far (by simp<;>omega) _,US.far (by simp<;>omega) _,?_,?_,hk2.setCell (p:=⟨w.heap.size+1,0,none⟩) (fun _ _=> .inr (by simp)) _⟩,by rw[PW.out,←Nat.add_assoc];exact HFT.out⟩
     ·rw[PW.out,←Nat.add_assoc];exact ⟨hr2.1.far (by simp<;>omega) _,hr2.2.kept (aJ _ _ 0 _) (.inr (aF hr2.2 yA (by decide)))⟩
     ·rw[Nc.out];have:=hown'.kept (aJ w2 (w.heap.size+1) 0 (.slice (some ⟨g',0,none⟩) (k+1) cap')) (.inr (aF hown' yA (by decide)));simpa[Dt] using this
    case measure=>simp[intOf];omega
   ·have hget:=BU r v bs (pos+(ws.take k).sum) n wr st.rd HPK.out sN.out Qw (by have:=HPK.out;omega);have HG:=Lib.hid hget;clear hget hcb hsn hga hle hbk hn hfits;go_wp2_with fail;refine HG.out.mono ?_;rintro e1 w1 ⟨rfl,hr1,hk1⟩;obtain ⟨Hq,Ae,yx,Tg,wQ,Qx⟩:=st.step hrl hk1;clear HG st MY;have co:=Ae.cell 0;have fo:=Ae.frozen 0;have ce:=yx.cell 0;have fe:=yx.frozen 0;simp at co ce;have Nf:aA ((w1.setCell ⟨w.heap.size+1,0,none⟩ (.slice none 0 0)).setCell ⟨w.heap.size+1+1,0,none⟩ (.int .i64 5)) (w.heap.size+1+1) 35 #[.int .i64 5]:=by
     simpa using (yx.far (p:=⟨w.heap.size+1,0,none⟩) (by simp<;>omega) (.slice none 0 0)).aC 0 (.int .i64 5)
    have Ng:aA ((w1.setCell ⟨w.heap.size+1,0,none⟩ (.slice none 0 0)).setCell ⟨w.heap.size+1+1,0,none⟩ (.int .i64 5)) (w.heap.size+1) 129 #[.slice none 0 0]:=by
     simpa using (Ae.aC 0 (.slice none 0 0)).far (p:=⟨w.heap.size+1+1,0,none⟩) (by simp<;>omega) (.int .i64 5)
    have adB:=(Hq.far (p:=⟨w.heap.size+1,0,none⟩) (by simp<;>omega) (.slice none 0 0)).far (p:=⟨w.heap.size+1+1,0,none⟩) (by simp<;>omega) (.int .i64 5);have adC:=(Tg.far (p:=⟨w.heap.size+1,0,none⟩) (by simp<;>omega) (.slice none 0 0)).far (p:=⟨w.heap.size+1+1,0,none⟩) (by simp<;>omega) (.int .i64 5);have hkp3:=(Qx.setCell (p:=⟨w.heap.size+1,0,none⟩) (fun _ _=> .inr (by simp)) (.slice none 0 0)).setCell (p:=⟨w.heap.size+1+1,0,none⟩) (fun _ _=> .inr (by simp<;>omega)) (.int .i64 5);have AX:qx ((w1.setCell ⟨w.heap.size+1,0,none⟩ (.slice none 0 0)).setCell ⟨w.heap.size+1+1,0,none⟩ (.int .i64 5)) r v bs (pos+(ws.take k).sum):=
     ⟨(hr1.1.far (p:=⟨w.heap.size+1,0,none⟩) (by simp<;>omega) _).far (p:=⟨w.heap.size+1+1,0,none⟩) (by simp<;>omega) _,
      (hr1.2.kept (aJ w1 (w.heap.size+1) 0 (.slice none 0 0)) (.inr (aF hr1.2 Ae (by decide)))).kept (aJ _ (w.heap.size+1+1) 0 (.int .i64 5)) (.inr (aF hr1.2 yx (by decide)))⟩
    go_wp2;refine leaves_cons (f:=150) (args:= #[.pointer (some ⟨w.heap.size+1+1,0,none⟩),.pointer (some ⟨w.heap.size+1+1+1,0,none⟩),.pointer (some ⟨w.heap.size,0,none⟩),.pointer (some ⟨w.heap.size+1,0,none⟩)]) (by simp) (by simp[go_sem]) ?_;refine (KR _ _ _ _ r pos _ 5 _ _ .returning _ Nf rfl adC adB Ng AX.1 (by omega)).mono ?_;rintro e u' w'' ⟨rfl,rfl,rfl⟩;have adD:=(Nf.far (p:=⟨r,1,none⟩) (by simp<;>omega) (.int .i64 pos)).far (p:=⟨w.heap.size+1,0,none⟩) (by simp<;>omega) (.slice none 0 0);have adE:=(Ng.far (p:=⟨r,1,none⟩) (by simp<;>omega) (.int .i64 pos)).aC 0 (.slice none 0 0);have Yk:=adD.cell 0;have Yl:=adE.cell 0;simp at Yk Yl;have Fe:=AX.move pos;refine ⟨.tuple #[.slice none 0 0,.int .i64 5],by simp[results,Tryz.results114,go_sem,Yk,Yl],rfl,⟨Fe.1.far (p:=⟨w.heap.size+1,0,none⟩) (by simp<;>omega) _,Fe.2.kept (aJ _ (w.heap.size+1) 0 (.slice none 0 0)) (.inr (aF Fe.2 (Ng.far (p:=⟨r,1,none⟩) (by simp<;>omega) (.int .i64 pos)) (by decide)))⟩,(hkp3.setCell (p:=⟨r,1,none⟩) (fun _ _=> .inl rfl) _).setCell (p:=⟨w.heap.size+1,0,none⟩) (fun _ _=> .inr (by simp)) _⟩
  ·have e:ws.take k=ws:=List.take_of_length_le (by rw[HN.out];omega);have:=HPK.out;have:=HF.out;rw[e] at*;omega
theorem BZ (r b:Nat) (v:Value) (bs:List UInt8) (pos:Nat) (ws:List Nat) (w:World) (h:qx w r v bs pos) (hsm:bs.length≤1000000000) (hws:∀n∈ws,n≤64) (hwl:ws.length≤1000)
 (hb:aA w b 3 (jE ws).toArray) (hfit:pos+ws.sum≤8*bs.length):
 Calls Tryz.prog 68 #[.pointer (some ⟨r,0,none⟩),.slice (some ⟨b,0,none⟩) ws.length ws.length] w (J6 w r v bs pos ws):=by
 have hE:=Qv r b v bs pos ws w h hsm hws hwl hb hfit;have HE:=Lib.hid hE;clear hE hsm hws;go_enter Tryz.func68,Tryz.ntmps68;go_wp2_with fail;refine HE.out.mono ?_;rintro e w' ⟨vo,rfl,h1,h2,h3⟩;go_wp2
 go_ret2
 exact ⟨vo,rfl,h1,h2,h3⟩
theorem sV (r b:Nat) (v:Value) (bs:List UInt8) (pos:Nat) (ws:List Nat) (w:World) (h:qx w r v bs pos) (hsm:bs.length≤1000000000) (hws:∀n∈ws,n≤64) (hwl:ws.length≤1000)
 (hb:aA w b 3 (jE ws).toArray) (hp:pos≤8*bs.length) (hfit:8*bs.length<pos+ws.sum):
 Calls Tryz.prog 68 #[.pointer (some ⟨r,0,none⟩),.slice (some ⟨b,0,none⟩) ws.length ws.length] w (BV w r v bs pos):=by
 have hE:=Iv r b v bs pos ws w h hsm hws hwl hb hp hfit;have HE:=Lib.hid hE;clear hE hsm hws;go_enter Tryz.func68,Tryz.ntmps68;go_wp2_with fail;refine HE.out.mono ?_;rintro e w' ⟨rfl,h2,h3⟩;go_wp2
 go_ret2
 exact ⟨rfl,h2,h3⟩
end Go.Proofs.YtiecgfahidpldaaGreat
namespace Go.Proofs.YtiecgfahidpldaaGreat
open Go.RowKit
def Iw:Value→Nat
 | .slice _ n _=>n
 |_=>0
theorem Iy {w:World} {base:Nat} {e:TypeId} {size n:Nat} {v:Value} {xs:List Value} (h:w.ownsRow base e size v n xs):Iw v=n:=by
 rcases h.2 with ⟨rfl,h0⟩|⟨g',cap,cur,rfl,_⟩
 ·exact h0.symm
 ·rfl
theorem Qy (V:Nat) (h:V<4096):bits BinOp.and IntKind.u64 (V:Int) 2047=((V%2048:Nat):Int):=by
 have h1:=u64_and_nat V 2047 (by omega) (by omega);have h1':bits BinOp.and IntKind.u64 (V:Int) 2047=((V&&& 2047:Nat):Int):=h1;rw[h1'];have:V&&& 2047=V%2048:=Nat.and_two_pow_sub_one_eq_mod V 11;rw[this]
end Go.Proofs.YtiecgfahidpldaaGreat
namespace Go.Proofs.YtiecgfahidpldaaGreat
open Go.RowKit
theorem lD:(Tryz.prog.info? 22).map (fun i=>(i.zero,i.size,i.bytes))=some (some (.slice none 0 0),1,24):=by kernel_rfl
theorem und22:Tryz.prog.underlying 34=some (.slice 22):=by kernel_rfl
theorem Sl.cut {w:World} {B n c k:Nat} {A:Option Addr} {xs:List Value} (h:Sl w B A n c xs) (hk:k≤n):Sl w B (if c=k then A else A.map (·.add k)) (n-k) (c-k) (xs.drop k):=by
 refine ⟨by rw[List.length_drop,h.len],by have:=h.cap;omega,by have:=h.mx;omega,fun hn=> ?_⟩;obtain ⟨ad,rfl,hb,hc⟩:=h.at_ (by omega);have:=h.cap;rw[if_neg (by omega)];refine ⟨ad.add k,rfl,by rw[block_add];exact hb,fun j u hu=> ?_⟩;rw[add_add];exact hc _ u (by rw[←hu,List.getElem?_drop])
def eY (w:World) (base:Nat) (vo:Value) (ps:List (List UInt8)):Prop:=
 ∃vs g cap data,w.ownsRow base 22 1 vo ps.length vs∧w.ownsRow base 5 1 (.slice (some ⟨g,0,none⟩) data.length cap) data.length (cu data)∧
  ∀(i:Nat) (p:List UInt8),ps[i]? =some p→∃off c,vs[i]? =some (Value.slice (some ⟨g,off,none⟩) p.length c)∧p.length≤c∧c≤9223372036854775807∧p=(data.drop off).take p.length
theorem eY.kept {w w':World} {base:Nat} {vo:Value} {ps:List (List UInt8)} (h:eY w base vo ps) (hk:∀k o,base≤k→w.heap[k]? =some o→w'.heap[k]? =some o):eY w' base vo ps:=by
 obtain ⟨vs,g,cap,data,h1,h2,h3⟩:=h;have go:∀{e:TypeId} {v:Value} {n:Nat} {xs:List Value},w.ownsRow base e 1 v n xs→w'.ownsRow base e 1 v n xs:=by
  intro e v n xs hh;rcases hh.2 with ⟨rfl,h0⟩|⟨g',cap,cur,rfl,h1,h2,h3⟩
  ·exact ⟨hh.1,.inl ⟨rfl,h0⟩⟩
  ·exact ⟨hh.1,.inr ⟨g',cap,cur,rfl,h1,hk _ _ h1 h2,h3⟩⟩
 exact ⟨vs,g,cap,data,go h1,go h2,h3⟩
theorem eY.base {w:World} {base base':Nat} {vo:Value} {ps:List (List UInt8)} (h:eY w base vo ps) (hb:base'≤base):eY w base' vo ps:=by
 obtain ⟨vs,g,cap,data,h1,h2,h3⟩:=h;exact ⟨vs,g,cap,data,aW h1 hb,aW h2 hb,h3⟩
theorem eY.Nh {w:World} {base:Nat} {vo:Value} {ps:List (List UInt8)} (h:eY w base vo ps):∃A c vs,vo= .slice A ps.length c∧gD w w.heap.size A ps.length c vs ps:=by
 obtain ⟨vs,g,cap,data,h1,h2,h3⟩:=h;obtain ⟨A,c,rfl,hs,_⟩:=aP h1;refine ⟨A,c,vs,rfl,hs,rfl,fun i p hi=> ?_⟩;obtain ⟨off,ci,e,hc1,hc2,hp⟩:=h3 i p hi;refine ⟨_,ci,e,⟨by simp,hc1,hc2,fun hpos=>⟨_,rfl,(h2.lt g rfl).2,fun j u hu=> ?_⟩⟩⟩;have hj:j<p.length:=by
  have:=(List.getElem?_eq_some_iff.1 hu).1;simpa using this
 have hcell:=h2.cells (g:=g) rfl (off+j) u (by
  unfold cu at hu ⊢;rw[List.getElem?_map] at hu ⊢;rw[hp,List.getElem?_take,if_pos hj,List.getElem?_drop] at hu;exact hu)
 have e2:(⟨g,off,none⟩:Addr).add j=(⟨g,0,none⟩:Addr).add (off+j):=by
  unfold Addr.add;by_cases hj0:j=0
  ·subst hj0;by_cases ho:off=0
   ·simp[ho]
   ·simp[ho]
  ·simp[hj0]
 rw[e2];exact hcell
def iV (g:Nat) (ls:List Nat) (k:Nat):List Value:=(List.range k).map fun i=> .slice (some ⟨g,(ls.take i).sum,none⟩) (ls[i]?.getD 0) (ls[i]?.getD 0)
theorem AY (g:Nat) (ls:List Nat) (k n:Nat) (h:ls[k]? =some n):iV g ls (k+1)=iV g ls k++ [.slice (some ⟨g,(ls.take k).sum,none⟩) n n]:=by
 simp[iV,List.range_succ,h]
end Go.Proofs.YtiecgfahidpldaaGreat
namespace Go.Proofs.YtiecgfahidpldaaGreat
open Go.RowKit
def qQ (P:Program) (fn:Func) (c₀:Frame) (cs cs':List Frame) (R:Ending→FrameMode→World→Prop) (e:Exit) (a:Act) (w:World):Prop:=bodyPostS P fn c₀ cs R e a cs' w
theorem sW (er:Int) (w:World):(Instr.typeAssert (.iface 35 (.int .i64 er)) 20 35 true).run Tryz.prog w= .ok (.tuple #[.int .i64 er,.bool true]) w:=by kernel_rfl
end Go.Proofs.YtiecgfahidpldaaGreat
namespace Go.Proofs.YtiecgfahidpldaaGreat
open Go.RowKit
end Go.Proofs.YtiecgfahidpldaaGreat
namespace Go.Proofs.YtiecgfahidpldaaGreat
open Go.RowKit
theorem und5:Tryz.prog.underlying 5=some (.int .u8):=by kernel_rfl
theorem Ym:Tryz.prog.underlying 9=some .string:=by kernel_rfl
theorem sZ {w:World} {B n c:Nat} {A:Option Addr} {l:List UInt8} (h:Sl w B A n c (cu l)):(convert 22 9 (.slice A n c)).run Tryz.prog w= .ok (.string ⟨l.toArray⟩) w:=by
 have hl:l.length=n:=by simpa using h.len
 subst hl;rcases A with _|a
 ·have h0:l.length=0:=by
   rcases Nat.eq_zero_or_pos l.length with h0|h0
   ·exact h0
   ·obtain ⟨_,e,_⟩:=h.at_ h0;cases e
  have:l= []:=List.eq_nil_of_length_eq_zero h0;subst this;exact Lib.run_convert_nil_bytes w 22 9 5 c und29 und5 Ym
 ·refine run_convert_bytes_back w 22 9 5 a c l und29 und5 Ym (fun j hj=> ?_);obtain ⟨ad,e,_,hc⟩:=h.at_ (by omega);injection e with e
  subst e;refine hc j _ ?_;unfold cu;rw[List.getElem?_map,List.getElem?_eq_getElem hj];rfl
end Go.Proofs.YtiecgfahidpldaaGreat
namespace Go.Proofs.YtiecgfahidpldaaGreat
open Go.RowKit
theorem rH {w:World} {b:Nat} {cs:Array Value} {t:TypeId} {fr:Nat × Nat} {xs:List Value} (h:w.heap[b]? =some (.cells cs t fr)) (e:cs.toList=xs) (hn:xs.length≤9223372036854775807):Sl w w.heap.size (some ⟨b,0,none⟩) xs.length xs.length xs:=
 ⟨rfl,Nat.le_refl _,hn,fun _=>⟨_,rfl,lt_of_heap h,fun j u hu=>by rw[←e] at hu;exact World.news_of_block h j u hu⟩⟩
theorem lY (w:World) (o:Obj):(w.alloc o).heap[w.heap.size]? =some o:=heap_alloc_new w o
end Go.Proofs.YtiecgfahidpldaaGreat
namespace Go.Proofs.YtiecgfahidpldaaGreat
open Go.RowKit
def Qz (w wr:World):Prop:=∃q,w.drewN q=wr
theorem Qz.refl (w:World):Qz w w:=⟨0,rfl⟩
end Go.Proofs.YtiecgfahidpldaaGreat
namespace Go.Proofs.YtiecgfahidpldaaGreat
open Go.RowKit
end Go.Proofs.YtiecgfahidpldaaGreat
namespace Go.Proofs.YtiecgfahidpldaaGreat
open Go.RowKit
theorem aA.three {w:World} {g:Nat} {t:TypeId} {x y z:Value} (b:aA w g t #[x,y,z]):w.cell? ⟨g,0,none⟩=some x∧w.cell? ⟨g,1,none⟩=some y∧w.cell? ⟨g,2,none⟩=some z:=
 ⟨b.cell 0,b.cell 1,b.cell 2⟩
end Go.Proofs.YtiecgfahidpldaaGreat
namespace Go.Proofs.YtiecgfahidpldaaGreat
section
open Go.RowKit Go.Shelf
attribute [local go_sem] Oper.semAt_some
theorem tq (n:Int):bits .and .i64 n 1023=n%1024:=by
 have h127:(BitVec.ofInt 64 1023).toNat=2 ^ 10-1:=by decide
 have key:(BitVec.ofInt 64 n&&& BitVec.ofInt 64 1023).toNat=(n%((2 ^ 64:Nat):Int)).toNat%2 ^ 10:=by
  rw[BitVec.toNat_and,BitVec.toNat_ofInt,h127,Nat.and_two_pow_sub_one_eq_mod]
 show IntKind.i64.wrap ((BitVec.ofInt 64 n&&& BitVec.ofInt 64 1023).toNat:Nat)=n%1024
 rw[key,IntKind.wrap_i64];omega
section
variable {D F:Nat→Prop} {g:Nat} {c:Cf} {st:Sd} {vq vo:Value} {vs os:List Value} {w:World}
theorem gL (h:dY w D F g c st vq vs vo os) (ht:1≤c.timer):
 Calls Tryz.prog 52 #[.pointer (some ⟨g,0,none⟩)] w fun e w'=>e= .returned (.int .i64 (if st.failed=true then 8 else 0))∧w=w':=by
 have x2:=h.blk.cell 2;have QA:=h.blk.cell 19;simp[dh] at x2 QA;have d0:(c.timer==0)=false:=by simp;omega
 clear h;cases hf:st.failed with
 |true=>
  rw[hf] at QA;go_enter Tryz.func52,Tryz.ntmps52;go_wp2;go_ret;exact ⟨rfl,rfl⟩
 |false=>
  rw[hf] at QA;go_enter Tryz.func52,Tryz.ntmps52;go_wp2;go_ret;exact ⟨rfl,rfl⟩
theorem dY.Nh (h:dY w D F g c st vq vs vo os):∃A cc,vq= .slice A st.queue.length cc∧gD w w.heap.size A st.queue.length cc vs st.queue:=by
 obtain ⟨A,cc,e,hs⟩:=h.qr.sl;exact ⟨A,cc,e,hs,rfl,fun i p hi=>let ⟨A',c',e',hs',_⟩:=h.qe i p hi;⟨A',c',e',hs'⟩⟩
theorem dY.Ni (h:dY w D F g c st vq vs vo os):∃A cc,vo= .slice A st.out.length cc∧Sl w w.heap.size A st.out.length cc os:=h.nR.sl
set_option maxHeartbeats 400000 in
theorem uY (h:dY w D F g c st vq vs vo os) (hsum:aZ st≤1048576):
 Calls Tryz.prog 99 #[.pointer (some ⟨g,0,none⟩)] w fun e w'=>e= .returned (.int .i64 (aZ st:Nat))∧w=w':=by
 have x7:=h.blk.cell 7;simp[dh] at x7;obtain ⟨A,cc,rfl,hs⟩:=h.Nh;have hcap:=hs.sl.cap;have hmx:=hs.sl.mx;have HS:=Lib.hid hs;unfold aZ at hsum ⊢;have sN:=Lib.hid hsum;clear h hs hsum;go_enter Tryz.func99,Tryz.ntmps99;go_wp2
 go_loop [2,10] (fun s i=>∃k:Nat,k≤st.queue.length∧i= .int .i64 k∧s= .int .i64 (au (st.queue.take k):Nat)) (fun _ i=>st.queue.length-(intOf i).toNat)
 case atStart=>exact ⟨0,Nat.zero_le _,rfl,rfl⟩
 case round=>
  obtain ⟨k,hk,rfl,rfl⟩:=hrel;by_cases hlt:k<st.queue.length
  ·obtain ⟨ad,Ai,ci,rfl,hb,hc,hsl⟩:=HS.out.get hlt;have hs1:=gF st.queue k hlt;have hle1:=Nat.le_trans (cK st.queue (k+1)) sN.out;have hcap1:=hsl.cap;have Yn:=hsl.mx;generalize st.queue[k]?.getD []=p at*;generalize au (List.take k st.queue)=S at*;have hle2:S+p.length≤1048576:=by omega
   have BN:=Lib.hid hs1;clear hs1 hle1 hsl;go_wp2
   go_round
   case rel=>exact ⟨k+1,by omega,by go_num,by rw[BN.out];go_num⟩
   case measure=>simp[intOf];omega
  ·have e:st.queue.take k=st.queue:=List.take_of_length_le (by omega);rw[e];clear e;go_wp2;go_ret;exact ⟨rfl,rfl⟩
theorem qR (h:dY w D F g c st vq vs vo os) (h1:st.first<1024) (h2:st.out.length≤1000000):
 Calls Tryz.prog 64 #[.pointer (some ⟨g,0,none⟩)] w fun e w'=>e= .returned (.int .i64 (cB st:Nat))∧Qz w w':=by
 have uZ:=h.blk.cell 11;have EG:=h.blk.cell 12;simp[dh] at uZ EG;obtain ⟨A,cc,rfl,hs⟩:=h.Ni;have hcap:=hs.cap;have hmx:=hs.mx;have hand:bits BinOp.and IntKind.i64 ((st.first:Int)+(st.out.length:Int)) 1023=((cB st:Nat):Int):=by rw[tq];unfold cB;omega
 have hsum:IntKind.i64.wrap ((st.first:Int)+(st.out.length:Int))=(st.first:Int)+(st.out.length:Int):=IntWalk.i64_in _ (by omega);have HS:=Lib.hid hsum;have HA:=Lib.hid hand;clear h hs hsum hand;go_enter Tryz.func64,Tryz.ntmps64;go_wp2
 go_quiet (fail)
 go_wp2;go_ret;refine ⟨mM (by first|rw[HS.out,HA.out]|rw[HA.out]),?_⟩;exact ⟨_,rfl⟩
theorem rJ (h:dY w D F g c st vq vs vo os) (h1:st.first<1024) (sn:Int) (hs:0≤sn∧sn≤1023):
 Calls Tryz.prog 55 #[.pointer (some ⟨g,0,none⟩),.int .i64 sn] w fun e w'=>e= .returned (.int .i64 (ed st sn))∧w=w':=by
 have uZ:=h.blk.cell 11;simp[dh] at uZ;have hand:bits BinOp.and IntKind.i64 (sn-(st.first:Int)) 1023=ed st sn:=by rw[tq];rfl
 clear h;go_enter Tryz.func55,Tryz.ntmps55;go_wp2;go_ret;exact ⟨rfl,rfl⟩
theorem gK.cells {p:Nat} {x:Ou} {Ap Ar:Option Addr} {cp cr:Nat} {vp:List Value} (h:gK w D F p x Ap cp vp Ar cr):
 w.cell? ⟨p,0,none⟩=some (.int .i64 (x.sn:Nat))∧w.cell? ⟨p,7,none⟩=some (.slice Ap x.ps.length cp)∧w.cell? ⟨p,8,none⟩=some (.int .i64 (ay x:Nat))∧w.cell? ⟨p,9,none⟩=some (.bool x.bS)∧w.cell? ⟨p,10,none⟩=some (.slice Ar x.pend.length cr)∧w.cell? ⟨p,11,none⟩=some (.int .i64 (x.dF:Nat)):=
 ⟨h.blk.cell 0,h.blk.cell 7,h.blk.cell 8,h.blk.cell 9,h.blk.cell 10,h.blk.cell 11⟩
def Yo:Option Nat→Int
 |some i=>(i:Int)
 |none=> -1
theorem KS {l:List Ou} {q:Ou→Bool} {k:Nat} {x:Ou} (hx:l[k]? =some x) (hall:∀(j:Nat) (y:Ou),j<k→l[j]? =some y→q y=false) (hq:q x=true):l.findIdx? q=some k:=by
 obtain ⟨hk,rfl⟩:=List.getElem?_eq_some_iff.1 hx;exact List.findIdx?_eq_some_iff_getElem.2 ⟨hk,hq,fun j hj=>by
  have:=hall j l[j] hj (List.getElem?_eq_getElem (by omega));simp[this]⟩
theorem KT {l:List Ou} {q:Ou→Bool} (hall:∀(j:Nat) (y:Ou),l[j]? =some y→q y=false):l.findIdx? q=none:=by
 rw[List.findIdx?_eq_none_iff];intro x hx;obtain ⟨j,hj⟩:=List.mem_iff_getElem?.1 hx;exact hall j x hj
set_option maxRecDepth 10000 in
set_option maxHeartbeats 1000000 in
theorem yB (EH:Nat) (adF:EH=143∨EH=113) (q:Ou→Bool) (h:dY w D F g c st vq vs vo os) (_hn:st.out.length≤1000000)
 (hq:∀p x Ap cp vp Ar cr,gK w D F p x Ap cp vp Ar cr→Calls Tryz.prog EH #[.pointer (some ⟨p,0,none⟩)] w fun e w'=>e= .returned (.bool (q x))∧w=w'):
 Calls Tryz.prog 112 #[vo,.func (.func EH) #[] #[]] w fun e w'=>e= .returned (.int .i64 (Yo (st.out.findIdx? q)))∧w=w':=by
 obtain ⟨A,cc,rfl,hs⟩:=h.Ni;have hcap:=hs.cap;have hmx:=hs.mx;have HS:=Lib.hid hs;have HOE:=Lib.hid h.oe;have HQ:=Lib.hid hq;clear h hs hq;rcases adF with rfl|rfl
 all_goals
  go_enter Tryz.func112,Tryz.ntmps112;go_wp2
  go_loop [8] (fun i=>∃k:Nat,k≤st.out.length∧i= .int .i64 k∧∀j y,j<k→st.out[j]? =some y→q y=false) (fun i=>st.out.length-(intOf i).toNat)
  case atStart=>exact ⟨0,Nat.zero_le _,rfl,fun j y hj=>by omega⟩
  case round=>
   obtain ⟨k,hk,rfl,hall⟩:=hrel;have HA:=Lib.hid hall;clear hall;by_cases hlt:k<st.out.length
   ·have hx:st.out[k]? =some st.out[k]:=List.getElem?_eq_getElem hlt;generalize st.out[k]=x at*;obtain ⟨p,Ap,cp,vp,Ar,cr,he,ho⟩:=HOE.out k x hx;obtain ⟨ad,u,rfl,hb,hu,hc⟩:=HS.out.get hlt;rw[he] at hu;cases hu;have hcl:=HQ.out p x Ap cp vp Ar cr ho;have HX:=Lib.hid hx;clear ho he hx;cases Xj:q x with
    |false=>
     rw[Xj] at hcl;have HQX:=Lib.hid Xj;have pJ:=Lib.hid hcl;clear Xj hcl;go_wp2_with fail;refine pJ.out.mono ?_;rintro e1 w1 ⟨rfl,rfl⟩;go_wp2
     go_round
     case rel=>
      refine ⟨k+1,by omega,by go_num,fun j y hj hy=> ?_⟩;rcases Nat.lt_or_ge j k with h1|h1
      ·exact HA.out j y h1 hy
      ·rw[show j=k by omega,HX.out] at hy;cases hy;exact HQX.out
     case measure=>simp[intOf];omega
    |true=>
     rw[Xj] at hcl;have hf:=KS HX.out HA.out Xj;have HF:=Lib.hid hf;have pJ:=Lib.hid hcl;clear Xj hcl hf;go_wp2_with fail;refine pJ.out.mono ?_;rintro e1 w1 ⟨rfl,rfl⟩;go_wp2;go_ret;exact ⟨by rw[HF.out];rfl,rfl⟩
   ·have hf:st.out.findIdx? q=none:=KT fun j y hy=>HA.out j y (by have:=(List.getElem?_eq_some_iff.1 hy).1;omega) hy
    have HF:=Lib.hid hf;clear hf;go_wp2;go_ret;exact ⟨by rw[HF.out];rfl,rfl⟩
theorem Iz {p:Nat} {x:Ou} {Ap Ar:Option Addr} {cp cr:Nat} {vp:List Value} (h:gK w D F p x Ap cp vp Ar cr):
 Calls Tryz.prog 143 #[.pointer (some ⟨p,0,none⟩)] w fun e w'=>e= .returned (.bool (oL x))∧w=w':=by
 obtain ⟨x0,x7,x8,x9,x10,uZ⟩:=h.cells;have hcap:=h.rs.cap;have hmx:=h.rs.mx;have hfin:decide (0<x.pend.length)=oL x:=by
  unfold oL;cases x.pend<;>simp
 have HF:=Lib.hid hfin;clear h hfin x0 x7 x8 x9 uZ;go_enter Tryz.func143,Tryz.ntmps143;go_wp2;go_ret;exact ⟨bH HF.out,rfl⟩
def J7 (st:Sd) (os:List Value):Value:=match fV st.out with
 |some i=>os[i]?.getD (.pointer none)
 |none=> .pointer none
theorem tu (h:dY w D F g c st vq vs vo os) (hn:st.out.length≤1000000):
 Calls Tryz.prog 102 #[.pointer (some ⟨g,0,none⟩)] w fun e w'=>e= .returned (J7 st os)∧w=w':=by
 have hix:=yB 143 (.inl rfl) oL h hn fun p x Ap cp vp Ar cr ho=>Iz ho
 have EG:=h.blk.cell 12;simp[dh] at EG;have MF:=Lib.hid hix;have HH:=Lib.hid h;clear hix;obtain ⟨A,cc,rfl,hs⟩:=h.Ni;have hcap:=hs.cap;have hmx:=hs.mx;unfold J7;have hp:st.out.findIdx? oL=fV st.out:=rfl;rw[hp] at MF;cases hpa:fV st.out with
 |none=>
  rw[hpa] at MF;clear h hs hp hpa;go_enter Tryz.func102,Tryz.ntmps102;go_wp2_with fail;refine MF.out.mono ?_;rintro e1 w1 ⟨rfl,rfl⟩;simp only[Yo];go_wp2;go_ret;exact ⟨rfl,rfl⟩
 |some i=>
  rw[hpa] at MF;obtain ⟨x,hx,_⟩:=iC hpa;have hil:=(List.getElem?_eq_some_iff.1 hx).1;obtain ⟨ad,u,rfl,hb,hu,hc⟩:=hs.get hil;have hg:os[i]?.getD (.pointer none)=u:=by rw[hu];rfl
  obtain ⟨p,Ap,cp,vp,Ar,cr,he,ho⟩:=h.oe i x hx;rw[hu] at he;cases he;have HG:=Lib.hid hg;clear h hs hp hpa hx ho hu hg;go_enter Tryz.func102,Tryz.ntmps102;go_wp2_with fail;refine MF.out.mono ?_;rintro e1 w1 ⟨rfl,rfl⟩;simp only[Yo];go_wp2;go_ret;exact ⟨by simp only;rw[HG.out];rfl,rfl⟩
end
end
section
open Go.RowKit
section
variable {D F F':Nat→Prop} {g:Nat} {c:Cf} {st st':Sd} {vq vo:Value} {vs os:List Value} {w w':World}
theorem Aa.mono {A:Option Addr} (h:Aa F D A) (hf:∀k,F k→F' k):Aa F' D A:=fun ad e=>⟨hf _ (h ad e).1,(h ad e).2⟩
theorem gK.Ff {p:Nat} {x:Ou} {Ap Ar:Option Addr} {cp cr:Nat} {vp:List Value} (h:gK w D F p x Ap cp vp Ar cr) (hf:∀k,F k→F' k):gK w D F' p x Ap cp vp Ar cr:=
 ⟨h.blk,h.d,hf p h.f,h.ps,h.pf.mono hf,fun i v hv=>(h.pe i v hv).mono hf,h.rs,h.rf.mono hf⟩
theorem dY.Ff (h:dY w D F g c st vq vs vo os) (hf:∀k,F k→F' k) (hl:∀k,F' k→k<w.heap.size):dY w D F' g c st vq vs vo os:=
 ⟨h.blk,h.gd,fun k hk=>hf k (h.sub k hk),hl,h.qr,h.qd,fun i p hi=>let ⟨A,cc,e,hs,hi'⟩:=h.qe i p hi;⟨A,cc,e,hs,hi'.mono hf⟩,h.nR,h.od,
  fun i x hi=>let ⟨p,Ap,cp,vp,Ar,cr,e,ho⟩:=h.oe i x hi;⟨p,Ap,cp,vp,Ar,cr,e,ho.Ff hf⟩,h.inj⟩
theorem fB {p:Addr} {u:Value} {k:Nat} (hk:k≠p.block):(w.setCell p u).heap[k]? =w.heap[k]? :=Below.heap_setCell w p u k hk
theorem gK.far {p b:Nat} {x:Ou} {Ap Ar:Option Addr} {cp cr:Nat} {vp:List Value} (h:gK w D F p x Ap cp vp Ar cr) (hD:D b) (hne:b≠p) (j:Nat) (u:Value):gK (w.setCell ⟨b,j,none⟩ u) D F p x Ap cp vp Ar cr:=by
 have nd:∀{A:Option Addr},Aa F D A→∀ad,A=some ad→(w.setCell ⟨b,j,none⟩ u).heap[ad.block]? =w.heap[ad.block]? :=fun hi ad e=>fB (fun e2=>(hi ad e).2 (by
  have e3:ad.block=b:=e2;rw[e3];exact hD))
 exact ⟨(fB (fun e=>hne (by have e3:p=b:=e;exact e3.symm))).trans h.blk,h.d,h.f,h.ps.stay (nd h.pf) (fun i v ad hv e=>nd (h.pe i v hv) ad e),h.pf,h.pe,h.rs.stay (nd h.rf),h.rf⟩
theorem dY.ny (h:dY w D F g c st vq vs vo os) (j:Nat) (u:Value) (he:(dh c vq vo st).setIfInBounds j u=dh c vq vo st') (hq:st'.queue=st.queue) (ho:st'.out=st.out):dY (w.setCell ⟨g,j,none⟩ u) D F g c st' vq vs vo os:=by
 have hb:=h.blk.aC j u;rw[he] at hb;have hDg:=h.gd;have nd:∀{A:Option Addr},Aa F D A→∀ad,A=some ad→(w.setCell ⟨g,j,none⟩ u).heap[ad.block]? =w.heap[ad.block]? :=fun hi ad e=>fB (fun e2=>(hi ad e).2 (by
  have e3:ad.block=g:=e2;rw[e3];exact hDg))
 refine ⟨hb,h.gd,h.sub,fun k hk=>by simpa[World.setCell] using h.lt k hk,by rw[hq];exact h.qr.store h.blk (by decide) u,h.qd,fun i p hi=> ?_,by rw[ho];exact h.nR.store h.blk (by decide) u,h.od,fun i x hi=> ?_,h.inj⟩
 ·rw[hq] at hi;obtain ⟨A,cc,e,hs,hf⟩:=h.qe i p hi;exact ⟨A,cc,e,hs.stay (nd hf),hf⟩
 ·rw[ho] at hi;obtain ⟨p,Ap,cp,vp,Ar,cr,e,hx⟩:=h.oe i x hi;refine ⟨p,Ap,cp,vp,Ar,cr,e,hx.far hDg (fun e2=> ?_) j u⟩;subst e2;have h1:=h.blk;have h2:=hx.blk;unfold aA at h1 h2;rw[h1] at h2;injection h2 with h3
  injection h3 with _ h4
  exact absurd h4 (by decide)
theorem dY.IA (h:dY w D F g c st vq vs vo os) {i p:Nat} {x z:Ou} {Ap Ar J8:Option Addr} {cp cr KU:Nat} {vp:List Value} (hx:st.out[i]? =some x) (hp:os[i]? =some (.pointer (some ⟨p,0,none⟩))) (hO:gK w D F p x Ap cp vp Ar cr)
 (j:Nat) (u:Value) (he:(uN x (.slice Ap x.ps.length cp) (.slice Ar x.pend.length cr)).setIfInBounds j u=uN z (.slice Ap z.ps.length cp) (.slice J8 z.pend.length KU)) (hz:z.ps=x.ps) (hr:cZ w J8 z.pend.length KU z.pend) (hf:Aa F D J8):
 dY (w.setCell ⟨p,j,none⟩ u) D F g c {st with out:=st.out.set i z} vq vs vo os∧gK (w.setCell ⟨p,j,none⟩ u) D F p z Ap cp vp J8 KU:=by
 have hb:=hO.blk.aC j u;rw[he] at hb;have hDp:=hO.d;have hgp:g≠p:=fun e2=>by
  subst e2;have h1:=h.blk;have h2:=hO.blk;unfold aA at h1 h2;rw[h1] at h2;injection h2 with h3
  injection h3 with _ h4
  exact absurd h4 (by decide)
 have nd:∀{A:Option Addr},Aa F D A→∀ad,A=some ad→(w.setCell ⟨p,j,none⟩ u).heap[ad.block]? =w.heap[ad.block]? :=fun hi ad e=>fB (fun e2=>(hi ad e).2 (by
  have e3:ad.block=p:=e2;rw[e3];exact hDp))
 have hZ:gK (w.setCell ⟨p,j,none⟩ u) D F p z Ap cp vp J8 KU:=by
  have hps:=hO.ps.stay (w':=w.setCell ⟨p,j,none⟩ u) (nd hO.pf) (fun i v ad hv e=>nd (hO.pe i v hv) ad e);exact ⟨hb,hO.d,hO.f,by rw[hz];exact hps,hO.pf,hO.pe,hr.stay (nd hf),hf⟩
 refine ⟨⟨(fB (fun e=>hgp e)).trans h.blk,h.gd,h.sub,fun k hk=>by simpa[World.setCell] using h.lt k hk,h.qr.store hO.blk (by decide) u,h.qd,fun i q hi=> ?_,?_,h.od,fun k y hk=> ?_,h.inj⟩,hZ⟩
 ·obtain ⟨A,cc,e,hs,hf⟩:=h.qe i q hi;exact ⟨A,cc,e,hs.stay (nd hf),hf⟩
 ·have:=h.nR.store hO.blk (i:=j) (by decide) u;have hl:(st.out.set i z).length=st.out.length:=List.length_set;show dA _ 0 _ vo (st.out.set i z).length os
  rw[hl];exact this
 ·have hk':(st.out.set i z)[k]? =some y:=hk;by_cases hki:i=k
  ·subst hki;rw[List.getElem?_set_self (List.getElem?_eq_some_iff.1 hx).1] at hk';cases hk';exact ⟨p,Ap,cp,vp,J8,KU,hp,hZ⟩
  ·rw[List.getElem?_set_ne hki] at hk';obtain ⟨q,A1,c1,v1,A2,c2,e,hy⟩:=h.oe k y hk';refine ⟨q,A1,c1,v1,A2,c2,e,hy.far hDp (fun e2=>hki ?_) j u⟩;subst e2;exact h.inj i k _ hp e
end
end
section
open Go.RowKit
def lZ (w:World) (D F:Nat→Prop) (g:Nat) (c:Cf) (st:Sd) (w':World):Prop:=
 ∃D' F' vq vs vo os,dY w' D' F' g c st vq vs vo os∧dX w D D'∧dX w F F'∧Kept (fun k _=>D k) w w'
section
variable {D F D' F':Nat→Prop} {g:Nat} {c:Cf} {st st':Sd} {vq vo:Value} {vs os:List Value} {w w' w'':World}
theorem Kept.step (h:Kept (fun k _=>D k) w w') (h':Kept (fun k _=>D' k) w' w'') (hg:dX w D D'):Kept (fun k _=>D k) w w'':=
 ⟨h'.os.trans h.os,h'.tape.trans h.tape,h'.output.trans h.output,Nat.le_trans h.size h'.size,fun i x hi hn=>h'.same i x (h.same i x hi hn) fun hd=>by
  rcases hg i hd with e|e
  ·exact hn e
  ·have:=lt_of_heap hi;omega⟩
theorem dY.o (h:dY w' D F g c st vq vs vo os) (hk:Kept (fun k _=>D k) w w'):lZ w D F g c st w':=
 ⟨D,F,vq,vs,vo,os,h,dX.refl _ _,dX.refl _ _,hk⟩
theorem lZ.step (hk:Kept (fun k _=>D k) w w') (hD:dX w D D') (hF:dX w F F') (h:lZ w' D' F' g c st w''):lZ w D F g c st w'':=by
 obtain ⟨D2,F2,vq,vs,vo,os,h1,h2,h3,h4⟩:=h;exact ⟨D2,F2,vq,vs,vo,os,h1,hD.trans h2 hk.size,hF.trans h3 hk.size,hk.step h4 hD⟩
theorem Kept.iA {M:Nat→Obj→Prop} (h:Kept M w w') (k:Nat):Kept M w (w'.drewN k):=⟨h.os,h.tape,h.output,h.size,h.same⟩
theorem lZ.drewN (h:lZ w D F g c st w') (k:Nat):lZ w D F g c st (w'.drewN k):=by
 obtain ⟨D2,F2,vq,vs,vo,os,h1,h2,h3,h4⟩:=h;exact ⟨D2,F2,vq,vs,vo,os,h1.drewN k,h2,h3,h4.iA k⟩
theorem lZ.alloc (h:lZ w D F g c st w') (o:Obj):lZ w D F g c st (w'.alloc o):=by
 obtain ⟨D2,F2,vq,vs,vo,os,h1,h2,h3,h4⟩:=h;exact ⟨D2,F2,vq,vs,vo,os,h1.alloc o,h2,h3,h4.alloc o⟩
theorem lZ.put {w0:World} (h:lZ w0 D F g c st w') (hk:Kept (fun k _=>D k) w w0) {b:Nat} (hb:w.heap.size≤b) (hb0:b<w0.heap.size) (hF:∀k,F k→k<w.heap.size) (_hD:∀k,D k→F k) (j:Nat) (u:Value):lZ w D F g c st (w'.setCell ⟨b,j,none⟩ u):=by
 obtain ⟨D2,F2,vq,vs,vo,os,h1,h2,h3,h4⟩:=h;have hnf:¬F2 b:=fun hf=>by
  rcases h3 b hf with e|e
  ·have:=hF b e;omega
  ·omega
 refine ⟨D2,F2,vq,vs,vo,os,h1.stay fun k hk=>fB (fun e=>hnf ?_),fun k hk'=> ?_,fun k hk'=> ?_,(hk.trans h4).setCell (fun o ho=> ?_) u⟩
 ·have e2:k=b:=e;rw[←e2];exact hk
 ·rcases h2 k hk' with e|e
  ·exact .inl e
  ·have:=hk.size;exact .inr (by omega)
 ·rcases h3 k hk' with e|e
  ·exact .inl e
  ·have:=hk.size;exact .inr (by omega)
 ·have:b<w.heap.size:=lt_of_heap ho;omega
theorem lZ.kept (h:lZ w D F g c st w'):Kept (fun k _=>D k) w w':=h.choose_spec.choose_spec.choose_spec.choose_spec.choose_spec.choose_spec.2.2.2
theorem dY.Ti (h:dY w D F g c st vq vs vo os) {b:Nat} (hb:b<w.heap.size):dY w D (fun k=>F k∨k=b) g c st vq vs vo os:=
 h.Ff (fun _=> .inl) fun k hk=>by
  rcases hk with hk|rfl
  ·exact h.lt k hk
  ·exact hb
theorem dX.one (hb:w.heap.size≤g):dX w F (fun k=>F k∨k=g):=fun k hk=>by
 rcases hk with hk|rfl
 ·exact .inl hk
 ·exact .inr hb
theorem dY.fresh (h:dY w D F g c st vq vs vo os) {b:Nat} (hb:w.heap.size≤b):¬D b:=fun hd=>by
 have:=h.lt b (h.sub b hd);omega
end
end
section
open Go.RowKit Go.Shelf
attribute [local go_sem] Oper.semAt_some
section
variable {D F:Nat→Prop} {g:Nat} {c:Cf} {st:Sd} {vq vo:Value} {vs os:List Value} {w:World}
theorem Ca (h:dY w D F g c st vq vs vo os) (now:Int):
 Calls Tryz.prog 54 #[.pointer (some ⟨g,0,none⟩),.int .i64 now] w fun e w'=>e= .returned (.tuple #[])∧dY w' D F g c (fu st now) vq vs vo os∧Kept (fun k _=>D k) w w':=by
 have x20:=h.blk.cell 20;have f20:=h.blk.frozen 20;simp[dh] at x20;have hs:=fun u he=>h.ny 20 (.int .i64 u) (st':= {st with now:=u}) he rfl rfl
 have HS:=Lib.hid hs;have HD:=Lib.hid h.gd;by_cases hlt:st.now<now
 ·have hc:fu st now= {st with now:=now}:=by unfold fu;rw[if_pos hlt]
  rw[hc];have hle:st.now≤now:=by omega
  clear h hs hc;go_enter Tryz.func54,Tryz.ntmps54;go_wp2
  go_end0
  exact ⟨rfl,HS.out now rfl,(Kept.refl _ w).setCell (p:=⟨g,20,none⟩) (fun _ _=>HD.out) _⟩
 ·have hc:fu st now= {st with now:=st.now}:=by unfold fu;rw[if_neg hlt]
  rw[hc];clear h hs hc;go_enter Tryz.func54,Tryz.ntmps54;go_wp2
  go_end0
  exact ⟨rfl,HS.out st.now rfl,(Kept.refl _ w).setCell (p:=⟨g,20,none⟩) (fun _ _=>HD.out) _⟩
theorem yC (h:dY w D F g c st vq vs vo os) (hf:st.failed=false):
 Calls Tryz.prog 62 #[.pointer (some ⟨g,0,none⟩)] w fun e w'=>e= .returned (.tuple #[])∧w=w':=by
 have QA:=h.blk.cell 19;simp[dh] at QA;rw[hf] at QA;clear h hf;go_enter Tryz.func62,Tryz.ntmps62;go_wp2
 go_end0
 exact ⟨rfl,rfl⟩
abbrev IB:Ending:= .panicked [{v:= .iface 174 (.agg #[]),recovered:=false}]
theorem ve (h:dY w D F g c st vq vs vo os) (hf:st.failed=true):
 Calls Tryz.prog 62 #[.pointer (some ⟨g,0,none⟩)] w fun e w'=>e=IB∧w=w':=by
 have QA:=h.blk.cell 19;simp[dh] at QA;rw[hf] at QA;clear h hf;unfold IB;go_enter Tryz.func62,Tryz.ntmps62;go_wp2;exact ⟨rfl,rfl,rfl⟩
theorem Cb (h:dY w D F g c st vq vs vo os) (hsum:aZ st≤1048576) (hn:st.out.length≤1000000):
 Calls Tryz.prog 111 #[.pointer (some ⟨g,0,none⟩)] w fun e w'=>e= .returned (.bool (jP st))∧Qz w w':=by
 have hpe:=fun k=>tu (h.drewN k) hn
 have E7:=fun k=>uY (h.drewN k) hsum
 have HP:=Lib.hid hpe;have HE:=Lib.hid E7;have x10:=h.blk.cell 10;have EG:=h.blk.cell 12;simp[dh] at x10 EG;clear hpe E7;unfold J7 at HP;cases hpa:fV st.out with
 |some i=>
  rw[hpa] at HP;obtain ⟨x,hx,_⟩:=iC hpa;obtain ⟨p,Ap,cp,vp,Ar,cr,he,ho⟩:=h.oe i x hx;have hg:os[i]?.getD (.pointer none)= .pointer (some ⟨p,0,none⟩):=by rw[he];rfl
  simp only[hg] at HP;have hfin:jP st=false:=by unfold jP;rw[hpa];rfl
  rw[hfin];clear h hpa hx he ho hg hfin;go_enter Tryz.func111,Tryz.ntmps111;go_wp2
  go_quiet ((go_at_call 102;exact Calls.quiet_of_same ((HP.out _).mono fun _ _ hh=>⟨hh.1,hh.2.symm⟩)))
  go_wp2;go_ret;refine ⟨rfl,?_⟩;exact ⟨_,rfl⟩
 |none=>
  rw[hpa] at HP;simp only at HP;obtain ⟨A,cc,rfl,hs⟩:=h.Ni;have hcap:=hs.cap;have hmx:=hs.mx;have hfin:jP st=(decide (st.taken=aZ st)||decide (512≤st.out.length)):=by unfold jP;rw[hpa];rfl
  rw[hfin];clear h hs hpa hfin;generalize aZ st=H at*;by_cases ht:st.taken=H
  ·rw[decide_eq_true ht];have d1:((st.taken:Int)==(H:Int))=true:=by simp;omega
   have d2:decide (st.taken=H)=true:=decide_eq_true ht;have HT:=Lib.hid ht;clear ht;go_enter Tryz.func111,Tryz.ntmps111;go_wp2
   go_quiet ((first|(go_at_call 102;exact Calls.quiet_of_same ((HP.out _).mono fun _ _ hh=>⟨hh.1,hh.2.symm⟩))|(go_at_call 99;exact Calls.quiet_of_same ((HE.out _).mono fun _ _ hh=>⟨hh.1,hh.2.symm⟩))))
   go_wp2;go_ret;refine ⟨rfl,?_⟩;exact ⟨_,rfl⟩
  ·rw[decide_eq_false ht];have d1:((st.taken:Int)==(H:Int))=false:=by simp;omega
   have d2:decide (st.taken=H)=false:=decide_eq_false ht;have HT:=Lib.hid ht;clear ht;go_enter Tryz.func111,Tryz.ntmps111;go_wp2
   go_quiet ((first|(go_at_call 102;exact Calls.quiet_of_same ((HP.out _).mono fun _ _ hh=>⟨hh.1,hh.2.symm⟩))|(go_at_call 99;exact Calls.quiet_of_same ((HE.out _).mono fun _ _ hh=>⟨hh.1,hh.2.symm⟩))))
   go_wp2;go_ret;refine ⟨by simp;omega,?_⟩;exact ⟨_,rfl⟩
theorem KV {p:Nat} {x:Ou} {Ap Ar:Option Addr} {cp cr:Nat} {vp:List Value} (h:gK w D F p x Ap cp vp Ar cr):
 Calls Tryz.prog 113 #[.pointer (some ⟨p,0,none⟩)] w fun e w'=>e= .returned (.bool (!x.bS))∧w=w':=by
 obtain ⟨x0,x7,x8,x9,x10,uZ⟩:=h.cells;clear h x0 x7 x8 x10 uZ;go_enter Tryz.func113,Tryz.ntmps113;go_wp2;go_ret;exact ⟨rfl,rfl⟩
end
end
end Go.Proofs.YtiecgfahidpldaaGreat
