/- The bit reader: NewReader, Left, Get, At, Align. The bit reader: NewReader, Align; errors that are raised: must, got. The bit reader: each, GetAll. umpdu.Decode: the lengths. umpdu.Decode: the parts. umpdu.Decode: errors are recovered. umpdu.Decode. The reference's bits: FromUint, Put. The reference's bits: Valid, Pack, Bytes, Align. The reference of layer 30: Size, Valid, Framing. The reference of layer 30: Tail, Encode. law30: same, num, few, fails. law30: works, the examples of the chapter. Equality of slices and chunks: slices.Equal, slices.EqualFunc, umpdu.Same, the reference's Same. umpdu.Same and the reference's Same. law30.UmpduSame: the walk. ampdu.Valid: conditions that are closures, all of them. ampdu.Encode. Plain mathematics: decoding undoes encoding of unacknowledged mode PDUs, and encoding undoes decoding. Plain mathematics: encodings cut short. law30.UmpduHolds: the walk. Lemmas for the walk of law30.UmpduCuts: the wanted chunk that the law builds. The reference's reader: Unpack, NewReader, Uint, Get, Align. The reference's reader: Get, Align. The reference's Rest: lengths. -/
import Derived.Test.YtiecgfahidpldaaGreatM0aa
import Derived.Test.YtiecgfahidpldaaGreatM0ac
import Derived.Defers
import Derived.Recover
import Derived.WideLaws
import Derived.Laws.IdiomStrings
import Derived.Laws.BytesArg
import Derived.Lib.SlBytesConst
import Derived.Lib.BufferRead
import Derived.Lib.SmallJoins
import Derived.Deep.DeepCutAuto
import Derived.Deep.RegionLaw
namespace Go.Proofs.YtiecgfahidpldaaGreat
open Go.RowKit
def ic (w:World) (r:Nat) (v:Value) (bs:List UInt8) (pos:Nat):Prop:=
 av w r 183 #[v,.int .i64 pos]∧w.ownsRow 0 5 1 v bs.length (bE bs)
theorem ic.drewN {w:World} {r:Nat} {v:Value} {bs:List UInt8} {pos:Nat} (h:ic w r v bs pos) (k:Nat):ic (w.drewN k) r v bs pos:=h
theorem ig {w w':World} {M:Nat→Obj→Prop} {base:Nat} {e:TypeId} {size n:Nat} {v:Value} {xs:List Value} (h:w.ownsRow base e size v n xs) (hk:Kept M w w') (hM:∀k o,ul o e→v.ownBlock=some k→¬M k o):w'.ownsRow base e size v n xs:=by
 rcases h.2 with ⟨rfl,h0⟩|⟨g',cap,cur,rfl,h1,h2,h3⟩
 ·exact ⟨h.1,.inl ⟨rfl,h0⟩⟩
 ·exact ⟨h.1,.inr ⟨g',cap,cur,rfl,h1,hk.same _ _ h2 (hM _ _ ⟨_,_,rfl⟩ rfl),h3⟩⟩
theorem ic.move {w:World} {r:Nat} {v:Value} {bs:List UInt8} {pos:Nat} (h:ic w r v bs pos) (q:Nat):ic (w.setCell ⟨r,1,none⟩ (.int .i64 q)) r v bs q:=
 ⟨by simpa using h.1.aF 1 (.int .i64 q),h.2.kept (ay w r 1 _) (.inr (au h.2 h.1 (by decide)))⟩
theorem qJ (r:Nat) (v:Value) (bs:List UInt8) (pos:Nat) (w:World) (h:ic w r v bs pos) (hp:pos≤8*bs.length) (hsm:bs.length≤1000000000):
 Calls Tryz.prog 151 #[.pointer (some ⟨r,0,none⟩)] w fun e w'=>e= .returned (.int .i64 ((8*bs.length-pos:Nat):Int))∧∃k,w.drewN k=w':=by
 obtain ⟨A,c,rfl,_⟩:=aK h.2;have c0:=h.1.cell 0;have c1:=h.1.cell 1;simp at c0 c1;have e1:(8*(bs.length:Int)-pos)=((8*bs.length-pos:Nat):Int):=by omega
 go_enter Tryz.func151,Tryz.ntmps151;go_wp2
 go_quiet (fail)
 go_wp2;go_ret;refine ⟨oZ ?_,_,rfl⟩
 go_num
theorem Co (r:Nat) (v:Value) (bs:List UInt8) (pos:Nat) (w:World) (h:ic w r v bs pos):
 Calls Tryz.prog 118 #[.pointer (some ⟨r,0,none⟩)] w fun e w'=>e= .returned (.int .i64 pos)∧w=w':=by
 have c1:=h.1.cell 1;simp at c1;go_enter Tryz.func118,Tryz.ntmps118;go_wp2;go_ret;exact ⟨rfl,rfl⟩
theorem or_bit (V:Nat) (b:UInt8) (j:Nat) (hV:V<9223372036854775808):
 bits BinOp.or IntKind.u64 ((V:Int)*2) (IntKind.u64.wrap (bits BinOp.and IntKind.u8 ((b.toNat:Int)/2 ^ j) 1))=((2*V+(decide (b.toNat/2 ^ j%2=1)).toNat:Nat):Int):=by
 have hb:b.toNat<256:=b.toNat_lt;have e:(b.toNat:Int)/2 ^ j=((b.toNat/2 ^ j:Nat):Int):=by push_cast;rfl
 have hle:b.toNat/2 ^ j≤b.toNat:=Nat.div_le_self _ _;have h1:=u8_and_nat (b.toNat/2 ^ j) 1 (by omega) (by omega);have h1':bits BinOp.and IntKind.u8 ((b.toNat/2 ^ j:Nat):Int) 1=((b.toNat/2 ^ j&&& 1:Nat):Int):=h1;rw[e,h1',Nat.and_one_is_mod,IntKind.wrap_u64];have hm:=Nat.mod_two_eq_zero_or_one (b.toNat/2 ^ j);generalize b.toNat/2 ^ j%2=x at*;have e2:((x:Nat):Int)%18446744073709551616=((x*2 ^ 0:Nat):Int):=by omega
 have e3:(V:Int)*2=((2*V:Nat):Int):=by omega
 rw[e2,e3,u64_or_nat (2*V) (x*2 ^ 0) (by omega) (by omega),wR (2*V) x 0 (by omega) (by omega)];rcases hm with rfl|rfl<;>simp
def Bh (w:World) (r:Nat) (v:Value) (bs:List UInt8) (x:Nat) (er:Int) (pos:Nat) (e:Ending) (w':World):Prop:=
 e= .returned (.tuple #[.int .u64 x,.int .i64 er])∧ic w' r v bs pos∧Kept (fun k _=>k=r) w w'
set_option maxHeartbeats 400000 in
theorem og (r:Nat) (v:Value) (bs:List UInt8) (pos n:Nat) (w:World) (h:ic w r v bs pos) (hp:pos≤8*bs.length) (hsm:bs.length≤1000000000) (hn:n≤64) (hs:8*bs.length-pos<n):
 Calls Tryz.prog 115 #[.pointer (some ⟨r,0,none⟩),.int .i64 n] w (Bh w r v bs 0 5 pos):=by
 have hl:=qJ r v bs pos w h hp hsm;have Er:=Lib.hid hl;generalize 8*bs.length-pos=m at*;clear hl hp hsm;go_enter Tryz.func115,Tryz.ntmps115;go_wp2_with (go_at_call 151;refine Er.out.mono ?_;rintro e w' ⟨rfl,q,rfl⟩)
 go_ret2
 exact ⟨rfl,h.drewN _,(Kept.refl _ w).drewN _⟩
set_option maxHeartbeats 800000 in
theorem o6 (r:Nat) (v:Value) (bs:List UInt8) (pos n:Nat) (w:World) (h:ic w r v bs pos) (hsm:bs.length≤1000000000) (hn:n≤64) (hs:pos+n≤8*bs.length):
 Calls Tryz.prog 115 #[.pointer (some ⟨r,0,none⟩),.int .i64 n] w (Bh w r v bs (val (aA bs pos n)) 0 (pos+n)):=by
 have hl:=qJ r v bs pos w h (by omega) hsm;have Er:=Lib.hid hl;obtain ⟨m,hm⟩:∃m,m=8*bs.length-pos:=⟨_,rfl⟩
 rw[←hm] at Er;have hnm:n≤m:=by omega
 clear hl hm;go_enter Tryz.func115,Tryz.ntmps115;go_wp2_with (go_at_call 151;refine Er.out.mono ?_;rintro e w' ⟨rfl,q,rfl⟩)
 replace h:=h.drewN q
 have hk0:=(Kept.refl (fun k _=>k=r) w).drewN q;generalize w.drewN q=w1 at*;clear Er
 go_loopw [4,22] (fun t i wr=>∃k:Nat,k≤n∧i= .int .i64 k∧t= .int .u64 (val (aA bs pos k))∧ic wr r v bs (pos+k)∧Kept (fun k _=>k=r) w wr) (fun _ i _=>n-(intOf i).toNat)
 case atStart=>exact ⟨0,Nat.zero_le _,rfl,rfl,h,hk0⟩
 case round=>
  clear h hk0;obtain ⟨k,hk,rfl,rfl,hr,hkp⟩:=hrel;by_cases hlt:k<n
  ·obtain ⟨A,c,rfl,hsl,_⟩:=aK hr.2;have c0:=hr.1.cell 0;have c1:=hr.1.cell 1;have f1:=hr.1.frozen 1;simp only[List.getElem?_toArray,List.getElem?_cons_zero,List.getElem?_cons_succ] at c0 c1;obtain ⟨ad,u,rfl,hub,hu,Ht⟩:=hsl.get (k:=(pos+k)/8) (by omega);obtain ⟨b,hb⟩:∃b,bs[(pos+k)/8]? =some b:=⟨_,List.getElem?_eq_getElem (by omega)⟩
   have hu':u= .int .u8 (b.toNat:Int):=by
    unfold bE at hu;rw[List.getElem?_map,hb] at hu;simpa[bv] using hu.symm
   subst hu';have hvl:=oU (aA bs pos k);rw[dU] at hvl;have hvs:val (aA bs pos (k+1))=2*val (aA bs pos k)+(uS bs (pos+k)).toNat:=by rw[qA,wS]
   have hbit:uS bs (pos+k)=decide (b.toNat/2 ^ (7-(pos+k)%8)%2=1):=by unfold uS;rw[List.getD_eq_getElem?_getD,hb];rfl
   rw[hbit] at hvs;generalize val (aA bs pos k)=V at*;have Jg:V<9223372036854775808:=Nat.lt_of_lt_of_le hvl (by have:=Nat.pow_le_pow_right (n:=2) (by omega) (show k≤63 by omega);simpa using this);have OD:=Lib.hid hvs;clear hvs hbit hu hb hvl;have hq8:(pos+k)/8<bs.length:=by omega
   have hmv:=hr.move (pos+k+1);have OE:=Lib.hid hmv;have hk2:=hkp.setCell (p:=⟨r,1,none⟩) (fun _ _=>rfl) (.int .i64 ((pos+k+1:Nat):Int));have xq:=Lib.hid hk2;have RU:pos+k<10000000000:=by omega
   clear hmv hk2 hr hkp hsl hub;have hq1:(0:Int)≤((pos:Int)+k)/8:=by omega
   have hq2:((pos:Int)+k)/8<bs.length:=by omega
   have hq3:(((pos:Int)+k)/8).toNat=(pos+k)/8:=by omega
   have Mm:=or_bit V b (7-(pos+k)%8) Jg;rw[←OD.out] at Mm;generalize hV':val (aA bs pos (k+1))=V' at*;have OG:=Lib.hid hV';clear hV';go_wp2
   go_quiet (fail)
   clear Mm hq1 hq2 hq3;have Oy:(wr.drewN nq).frozen? ⟨r,1,none⟩=false:=f1;have c1':(wr.drewN nq).cell? ⟨r,1,none⟩=some (.int .i64 ((pos:Int)+k)):=by rw[show ((pos:Int)+k)=((pos+k:Nat):Int) by omega];exact c1
   clear f1 c1 c0 Ht;go_wp2
   go_roundw
   case rel=>exact ⟨k+1,by omega,by go_num,by rw[OG.out],by
    have:=OE.out;rw[show ((pos+k+1:Nat):Int)=(pos:Int)+k+1 by omega] at this;exact this,by
    have:=xq.out;rw[show ((pos+k+1:Nat):Int)=(pos:Int)+k+1 by omega] at this;exact this.drewN _⟩
   case measure=>simp[intOf];omega
  ·obtain rfl:k=n:=by omega
   go_wp2
   go_ret2
   exact ⟨rfl,hr,hkp⟩
end Go.Proofs.YtiecgfahidpldaaGreat
namespace Go.Proofs.YtiecgfahidpldaaGreat
open Go.RowKit
def xu (w:World) (bs:List UInt8) (e:Ending) (w':World):Prop:=
 ∃r v,e= .returned (.pointer (some ⟨r,0,none⟩))∧w.heap.size≤r∧ic w' r v bs 0∧Below w.heap.size w w'
theorem nG (A:Option Addr) (n c:Nat) (bs:List UInt8) (w:World) (h:Sl w w.heap.size A n c (bE bs)) (hsm:n≤1000000000):
 Calls Tryz.prog 66 #[.slice A n c] w (xu w bs):=by
 have hl:bs.length=n:=by simpa using h.len
 have hcl:=jU A n c bs w h hsm;have HC:=Lib.hid hcl;clear hcl hsm;go_enter Tryz.func66,Tryz.ntmps66;go_wp2_with fail;refine HC.out.mono ?_;rintro e w1 ⟨v,rfl,hv,hb⟩;obtain ⟨A1,c1,rfl,hs1,_⟩:=aK hv;go_wp2;go_ret;refine ⟨w1.heap.size,_,rfl,hb.size,⟨av.new w1 183 _,?_⟩,hb.alloc hb.size _⟩;rw[hl];exact aW (hv.alloc _) (Nat.zero_le _)
abbrev raise (er:Int):Ending:= .panicked [{v:= .iface 35 (.int .i64 er),recovered:=false}]
def zG (w:World) (r:Nat) (v:Value) (bs:List UInt8) (er:Int) (pos:Nat) (e:Ending) (w':World):Prop:=
 e= .returned (.int .i64 er)∧ic w' r v bs pos∧Kept (fun k _=>k=r) w w'
set_option maxHeartbeats 400000 in
theorem sK (r:Nat) (v:Value) (bs:List UInt8) (pos:Nat) (w:World) (h:ic w r v bs pos) (hsm:bs.length≤1000000000) (hp:pos≤8*bs.length):
 Calls Tryz.prog 117 #[.pointer (some ⟨r,0,none⟩)] w (zG w r v bs (if val (aA bs pos (gP pos))=0 then 0 else 9) (if val (aA bs pos (gP pos))=0 then pos+gP pos else pos)):=by
 have RV:gP pos<8:=by unfold gP;omega
 have hfit:pos+gP pos≤8*bs.length:=by unfold gP;omega
 have hg:=o6 r v bs pos (gP pos) w h hsm (by omega) hfit;have c1:=h.1.cell 1;simp at c1;have OH:(8-(pos:Int)%8)%8=(gP pos:Int):=by unfold gP;omega
 have HG:=Lib.hid hg;generalize gP pos=n at*;generalize val (aA bs pos n)=V at*;have hps:pos<10000000000:=by omega
 clear hg hfit hsm;by_cases hV:V=0
 ·subst hV;simp only[if_true];go_enter Tryz.func117,Tryz.ntmps117;go_wp2_with fail;refine HG.out.mono ?_;rintro e w1 ⟨rfl,hr1,hk1⟩;go_wp2;go_ret;exact ⟨rfl,hr1,hk1⟩
 ·have hV':((V:Int) !=0)=true:=by simp;omega
  simp only[if_neg hV];go_enter Tryz.func117,Tryz.ntmps117;go_wp2_with fail;refine HG.out.mono ?_;rintro e w1 ⟨rfl,hr1,hk1⟩;have c1:=hr1.1.cell 1;have f1:=hr1.1.frozen 1;simp at c1;have e1:((pos:Int)+n)-n=pos:=by omega
  go_wp2;go_ret;exact ⟨rfl,hr1.move pos,hk1.setCell (p:=⟨r,1,none⟩) (fun _ _=>rfl) _⟩
end Go.Proofs.YtiecgfahidpldaaGreat
namespace Go.Proofs.YtiecgfahidpldaaGreat
open Go.RowKit
theorem qK:(Tryz.prog.info? 133).map (fun i=>(i.zero,i.size,i.bytes))=some (some (.int .u64 0),1,8):=by kernel_rfl
theorem xw:Tryz.prog.underlying 129=some (.slice 133):=by kernel_rfl
def getAll (bs:List UInt8) (pos:Nat) (ws:List Nat):List Nat:=(List.range ws.length).map fun i=>val (aA bs (pos+(ws.take i).sum) (ws[i]?.getD 0))
def o7 (l:List Nat):List Value:=l.map fun (x:Nat)=>Value.int .u64 (x:Int)
def dx (l:List Nat):List Value:=l.map fun (x:Nat)=>Value.int .i64 (x:Int)
theorem kH (bs:List UInt8) (pos:Nat) (ws:List Nat) (k n:Nat) (h:ws[k]? =some n):getAll bs pos (ws.take (k+1))=getAll bs pos (ws.take k)++ [val (aA bs (pos+(ws.take k).sum) n)]:=by
 have hk:k<ws.length:=(List.getElem?_eq_some_iff.1 h).1;unfold getAll;have e1:(ws.take (k+1)).length=k+1:=by simp;omega
 have e2:(ws.take k).length=k:=by simp;omega
 rw[e1,e2,List.range_succ,List.map_append]
 congr 1
 ·apply List.map_congr_left;intro i hi;rw[List.mem_range] at hi;rw[List.take_take,List.take_take,List.getElem?_take,List.getElem?_take,if_pos (by omega),if_pos hi,Nat.min_eq_left (by omega),Nat.min_eq_left (by omega)]
 ·simp only[List.map_cons,List.map_nil];rw[List.take_take,List.getElem?_take,if_pos (by omega),Nat.min_eq_left (by omega),h];rfl
theorem jr (ws:List Nat) (k n:Nat) (h:ws[k]? =some n):(ws.take (k+1)).sum=(ws.take k).sum+n:=by
 rw[List.take_add_one,h,List.sum_append];simp
theorem dY (ws:List Nat) (k:Nat):(ws.take k).sum≤ws.sum:=by
 conv=>rhs;rw[←List.take_append_drop k ws]
 rw[List.sum_append];omega
theorem xx (be bf br bo:Nat) (u:FrameMode) (w:World) (he:av w be 35 #[.int .i64 0]):
 CallsD Tryz.prog 150 #[.pointer (some ⟨be,0,none⟩),.pointer (some ⟨bf,0,none⟩),.pointer (some ⟨br,0,none⟩),.pointer (some ⟨bo,0,none⟩)] u w fun e u' w'=>u'=u∧(e= .returned (.tuple #[])∧w=w'):=by
 have c0:=he.cell 0;simp at c0
 go_enter_d Tryz.func150,Tryz.ntmps150
 go_wp2
 go_end0
 exact ⟨rfl,rfl⟩
theorem vg (be bf br bo r pos q:Nat) (er:Int) (vo v0:Value) (u:FrameMode) (w:World) (he:av w be 35 #[.int .i64 er]) (Mq:(er !=0)=true) (hf:av w bf 3 #[.int .i64 pos]) (hr:av w br 125 #[.pointer (some ⟨r,0,none⟩)])
 (ho:av w bo 129 #[vo]) (hrr:av w r 183 #[v0,.int .i64 q]) (hne:bo≠r):
 CallsD Tryz.prog 150 #[.pointer (some ⟨be,0,none⟩),.pointer (some ⟨bf,0,none⟩),.pointer (some ⟨br,0,none⟩),.pointer (some ⟨bo,0,none⟩)] u w fun e u' w'=>u'=u∧(e= .returned (.tuple #[])∧(w.setCell ⟨r,1,none⟩ (.int .i64 pos)).setCell ⟨bo,0,none⟩ (.slice none 0 0)=w'):=by
 have c0:=he.cell 0;have c1:=hf.cell 0;have c2:=hr.cell 0;have c3:=ho.cell 0;have f3:=ho.frozen 0;have c4:=hrr.cell 1;have f4:=hrr.frozen 1;simp at c0 c1 c2 c3 c4;have c3':(w.setCell ⟨r,1,none⟩ (.int .i64 pos)).cell? ⟨bo,0,none⟩=some vo:=by
  have:=(ho.far (p:=⟨r,1,none⟩) hne (.int .i64 pos)).cell 0;simpa using this
 have RX:(w.setCell ⟨r,1,none⟩ (.int .i64 pos)).frozen? ⟨bo,0,none⟩=false:=(ho.far (p:=⟨r,1,none⟩) hne (.int .i64 pos)).frozen 0
 go_enter_d Tryz.func150,Tryz.ntmps150
 go_wp2
 go_end0
 exact ⟨rfl,rfl⟩
structure jX (w:World) (r:Nat) (v:Value) (bs:List UInt8) (pos:Nat) (ws:List Nat) (k:Nat) (wr:World) (vo:Value):Prop where
 br:av wr w.heap.size 125 #[.pointer (some ⟨r,0,none⟩)]
 bo:av wr (w.heap.size+1) 129 #[vo]
 be:av wr (w.heap.size+1+1) 35 #[.int .i64 0]
 bf:av wr (w.heap.size+1+1+1) 3 #[.int .i64 pos]
 rd:ic wr r v bs (pos+(ws.take k).sum)
 ow:wr.ownsRow w.heap.size 133 1 vo k (o7 (getAll bs pos (ws.take k)))
 kp:Kept (fun j _=>j=r∨w.heap.size≤j) w wr
theorem jX.step {w:World} {r:Nat} {v:Value} {bs:List UInt8} {pos:Nat} {ws:List Nat} {k:Nat} {wr w1:World} {vo:Value} (st:jX w r v bs pos ws k wr vo) (hr:r<w.heap.size) (hk:Kept (fun j _=>j=r) wr w1):
 av w1 w.heap.size 125 #[.pointer (some ⟨r,0,none⟩)]∧av w1 (w.heap.size+1) 129 #[vo]∧av w1 (w.heap.size+1+1) 35 #[.int .i64 0]∧av w1 (w.heap.size+1+1+1) 3 #[.int .i64 pos]∧
  w1.ownsRow w.heap.size 133 1 vo k (o7 (getAll bs pos (ws.take k)))∧Kept (fun j _=>j=r∨w.heap.size≤j) w w1:=
 ⟨st.br.kept hk (by omega),st.bo.kept hk (by omega),st.be.kept hk (by omega),st.bf.kept hk (by omega),ig st.ow hk (fun j o _ hj e=>by have:=(st.ow.lt j hj).1;omega),st.kp.trans (hk.mono fun _ _ e=> .inl e)⟩
def uo (w:World) (r:Nat) (v:Value) (bs:List UInt8) (pos:Nat) (ws:List Nat) (e:Ending) (w':World):Prop:=
 ∃vo,e= .returned (.tuple #[vo,.int .i64 0])∧w'.ownsRow w.heap.size 133 1 vo ws.length (o7 (getAll bs pos ws))∧ic w' r v bs (pos+ws.sum)∧Kept (fun k _=>k=r∨w.heap.size≤k) w w'
set_option maxRecDepth 100000 in
set_option maxHeartbeats 2000000 in
theorem zH (r b:Nat) (v:Value) (bs:List UInt8) (pos:Nat) (ws:List Nat) (w:World) (h:ic w r v bs pos) (hsm:bs.length≤1000000000) (hws:∀n∈ws,n≤64) (hwl:ws.length≤1000)
 (hb:av w b 3 (dx ws).toArray) (hfit:pos+ws.sum≤8*bs.length):
 Calls Tryz.prog 114 #[.pointer (some ⟨r,0,none⟩),.slice (some ⟨b,0,none⟩) ws.length ws.length,.func (.func 115) #[.pointer (some ⟨r,0,none⟩)] #[]] w (uo w r v bs pos ws):=by
 obtain ⟨i0,hi,hz0,hz1,hz2⟩:=info_parts qK;have c1:=h.1.cell 1;simp at c1;have hrl:=h.1.lt;have hbl:=hb.lt;have hrb:b≠r:=by
  rintro rfl;have h1:=h.1;unfold av at h1 hb;rw[h1] at hb;injection hb with hb
  injection hb with _ h2
  exact absurd h2 (by decide)
 have Jh:=Lib.hid hws;have qE:=Lib.hid hsm;have HF:=Lib.hid hfit;clear hws hsm hfit;obtain ⟨N,hN⟩:∃N,ws.length=N:=⟨_,rfl⟩
 rw[hN] at hwl ⊢;have HN:=Lib.hid hN;clear hN;have c1':=(((h.1.alloc (.cells #[.pointer (some ⟨r,0,none⟩)] 125)).alloc (.cells #[.slice none 0 0] 129)).alloc (.cells #[.int .i64 0] 35)).cell 1;simp only[List.getElem?_toArray,List.getElem?_cons_zero,List.getElem?_cons_succ] at c1';have hst:jX w r v bs pos ws 0 ((((w.alloc (.cells #[.pointer (some ⟨r,0,none⟩)] 125)).alloc (.cells #[.slice none 0 0] 129)).alloc (.cells #[.int .i64 0] 35)).alloc (.cells #[.int .i64 pos] 3)) (.slice none 0 0):=by
  refine ⟨(((av.new w _ _).alloc _).alloc _).alloc _,?_,?_,?_,?_,World.ownsRow_nil _ _ _ _,((((Kept.refl _ w).alloc _).alloc _).alloc _).alloc _⟩
  ·simpa using ((av.new (w.alloc (.cells #[.pointer (some ⟨r,0,none⟩)] 125)) 129 #[.slice none 0 0]).alloc (.cells #[.int .i64 0] 35)).alloc (.cells #[.int .i64 pos] 3)
  ·simpa using (av.new ((w.alloc (.cells #[.pointer (some ⟨r,0,none⟩)] 125)).alloc (.cells #[.slice none 0 0] 129)) 35 #[.int .i64 0]).alloc (.cells #[.int .i64 pos] 3)
  ·simpa using av.new (((w.alloc (.cells #[.pointer (some ⟨r,0,none⟩)] 125)).alloc (.cells #[.slice none 0 0] 129)).alloc (.cells #[.int .i64 0] 35)) 3 #[.int .i64 pos]
  ·exact ⟨(((h.1.alloc _).alloc _).alloc _).alloc _,(((h.2.alloc _).alloc _).alloc _).alloc _⟩
 have HST:=Lib.hid hst;clear hst
 go_enter_defers Tryz.func114,Tryz.ntmps114
 go_wp2
 go_loopw [22] (fun i wr=>∃(k:Nat) (vo:Value),k≤N∧i= .int .i64 k∧jX w r v bs pos ws k wr vo) (fun i _=>N-(intOf i).toNat)
 case atStart=>exact ⟨0,_,Nat.zero_le _,rfl,HST.out⟩
 case round=>
  obtain ⟨k,vo,hk,rfl,st⟩:=hrel;by_cases hlt:k<N
  ·obtain ⟨n,hn⟩:∃n,ws[k]? =some n:=⟨_,List.getElem?_eq_getElem (by rw[HN.out];exact hlt)⟩
   have zI:=Jh.out n (List.mem_of_getElem? hn);have hsn:=jr ws k n hn;have hga:=kH bs pos ws k n hn;have hle:=dY ws (k+1);have hbk:av wr b 3 (dx ws).toArray:=hb.kept st.kp (by rintro (e|e);exact hrb e;omega);have hcb:=hbk.cell k;have wY:wr.cell? ⟨b,k,none⟩=some (.int .i64 n):=by rw[hcb,List.getElem?_toArray];unfold dx;rw[List.getElem?_map,hn];rfl
   have hget:=o6 r v bs (pos+(ws.take k).sum) n wr st.rd qE.out zI (by have:=HF.out;omega);have HG:=Lib.hid hget;have Be:=Lib.hid hsn;have Cq:=Lib.hid hga;clear hget hcb hsn hga hle hbk hn;go_wp2_with fail;refine HG.out.mono ?_;rintro e1 w1 ⟨rfl,hr1,hk1⟩;have st1:=st.step hrl hk1;generalize val (aA bs (pos+(ws.take k).sum) n)=x at*;clear HG st wY;obtain ⟨r9,mZ,lJ,Bi,kN,zJ⟩:=st1;have co:=mZ.cell 0;simp at co;go_wp2_with (at_builtin;refine wpList_append_own _ rfl _ _ 129 rfl w.heap.size 133 i0 (.int .u64 0) 1 8 xw hi hz0 hz1 hz2 rfl (by decide) _ _ _ rfl (kN.alloc _) ⟨w1.heap.size,0,none⟩ 1 1 [.int .u64 x] rfl rfl ?c1 ?c2 ?c3 ?c4 ?c5 ?_)
   case c1=>exact cell_one_new _ _ _
   case c2=>simp[Value.oneCell']
   case c3=>unfold maxLen;omega
   case c4=>omega
   case c5=>have:=zJ.size;simp;omega
   intro v' w2 hown' hgrow _;have hin:∀j,vo.ownBlock=some j→w.heap.size≤j:=fun j hj=>(kN.lt j hj).1
   have lK:=(mZ.alloc (.cells #[.int .u64 x] 133)).grown hgrow (fun e=>au kN mZ (by decide) e.symm);have Cr:=(r9.alloc (.cells #[.int .u64 x] 133)).grown hgrow (fun e=>au kN r9 (by decide) e.symm);have Cs:=(lJ.alloc (.cells #[.int .u64 x] 133)).grown hgrow (fun e=>au kN lJ (by decide) e.symm);have Ct:=(Bi.alloc (.cells #[.int .u64 x] 133)).grown hgrow (fun e=>au kN Bi (by decide) e.symm);have hk2:Kept (fun j _=>j=r∨w.heap.size≤j) w w2:=(zJ.alloc (.cells #[.int .u64 x] 133)).grown hgrow (fun j hj o _=> .inr (hin j hj));have hr2:ic w2 r v bs (pos+(ws.take k).sum+n):=by
    refine ⟨(hr1.1.alloc _).grown hgrow (fun e=>au kN hr1.1 (by decide) e.symm),(hr1.2.alloc _).kept hgrow ?_⟩;rcases hq:v.ownBlock with _|j
    ·exact .inl rfl
    ·refine .inr (fun e=> ?_);obtain ⟨o1,ho1,⟨cs1,Ji,rfl⟩,_⟩:=aQ hr1.2 hq;obtain ⟨o2,ho2,⟨cs2,Jj,rfl⟩,_⟩:=aQ kN e.symm;rw[ho1] at ho2;cases ho2
   have Jk:=lK.cell 0;have OI:=lK.frozen 0;simp at Jk;obtain ⟨g',cap',rfl,hgl,qB⟩:=hown'.form (by omega);go_wp2
   go_roundw
   case rel=>
    refine ⟨k+1,.slice (some ⟨g',0,none⟩) (k+1) cap',by omega,by go_num,⟨Cr.far (by simp) _,by simpa using lK.aF 0 (.slice (some ⟨g',0,none⟩) (k+1) cap'),Cs.far (by simp<;>omega) _,Ct.far (by simp<;>omega) _,?_,?_,hk2.setCell (p:=⟨w.heap.size+1,0,none⟩) (fun _ _=> .inr (by simp)) _⟩⟩
    ·rw[Be.out,←Nat.add_assoc];exact ⟨hr2.1.far (by simp<;>omega) _,hr2.2.kept (ay _ _ 0 _) (.inr (au hr2.2 lK (by decide)))⟩
    ·rw[Cq.out];have:=hown'.kept (ay w2 (w.heap.size+1) 0 (.slice (some ⟨g',0,none⟩) (k+1) cap')) (.inr (au hown' lK (by decide)));simpa[o7] using this
   case measure=>simp[intOf];omega
  ·have e:ws.take k=ws:=List.take_of_length_le (by rw[HN.out];omega);obtain ⟨r9,mZ,lJ,Bi,Es,kN,zJ⟩:=st;rw[e] at Es kN;have hkN:k=N:=by omega
   rw[hkN,←HN.out] at kN;clear e hkN;obtain ⟨A1,nH,rfl,hs1,_⟩:=aK kN;have co:=mZ.cell 0;have fo:=mZ.frozen 0;have ce:=lJ.cell 0;have fe:=lJ.frozen 0;simp at co ce;have xA:av ((wr.setCell ⟨w.heap.size+1,0,none⟩ (.slice A1 ws.length nH)).setCell ⟨w.heap.size+1+1,0,none⟩ (.int .i64 0)) (w.heap.size+1+1) 35 #[.int .i64 0]:=by
    simpa using (lJ.far (p:=⟨w.heap.size+1,0,none⟩) (by simp<;>omega) (.slice A1 ws.length nH)).aF 0 (.int .i64 0)
   have xB:av ((wr.setCell ⟨w.heap.size+1,0,none⟩ (.slice A1 ws.length nH)).setCell ⟨w.heap.size+1+1,0,none⟩ (.int .i64 0)) (w.heap.size+1) 129 #[.slice A1 ws.length nH]:=by
    simpa using (mZ.aF 0 (.slice A1 ws.length nH)).far (p:=⟨w.heap.size+1+1,0,none⟩) (by simp<;>omega) (.int .i64 0)
   have hkp3:=(zJ.setCell (p:=⟨w.heap.size+1,0,none⟩) (fun _ _=> .inr (by simp)) (.slice A1 ws.length nH)).setCell (p:=⟨w.heap.size+1+1,0,none⟩) (fun _ _=> .inr (by simp<;>omega)) (.int .i64 0);have Jl:=(kN.kept (ay wr (w.heap.size+1) 0 (.slice A1 ws.length nH)) (.inr (au kN mZ (by decide)))).kept (ay _ (w.heap.size+1+1) 0 (.int .i64 0)) (.inr (au kN lJ (by decide)));have nI:ic ((wr.setCell ⟨w.heap.size+1,0,none⟩ (.slice A1 ws.length nH)).setCell ⟨w.heap.size+1+1,0,none⟩ (.int .i64 0)) r v bs (pos+ws.sum):=
    ⟨(Es.1.far (p:=⟨w.heap.size+1,0,none⟩) (by simp<;>omega) _).far (p:=⟨w.heap.size+1+1,0,none⟩) (by simp<;>omega) _,
     (Es.2.kept (ay wr (w.heap.size+1) 0 (.slice A1 ws.length nH)) (.inr (au Es.2 mZ (by decide)))).kept (ay _ (w.heap.size+1+1) 0 (.int .i64 0)) (.inr (au Es.2 lJ (by decide)))⟩
   go_wp2;refine leaves_cons (f:=150) (args:= #[.pointer (some ⟨w.heap.size+1+1,0,none⟩),.pointer (some ⟨w.heap.size+1+1+1,0,none⟩),.pointer (some ⟨w.heap.size,0,none⟩),.pointer (some ⟨w.heap.size+1,0,none⟩)]) (by simp) (by simp[go_sem]) ?_;refine (xx _ _ _ _ .returning _ xA).mono ?_;rintro e u' w'' ⟨rfl,rfl,rfl⟩;have Et:=xA.cell 0;have Eu:=xB.cell 0;simp at Et Eu;refine ⟨.tuple #[.slice A1 ws.length nH,.int .i64 0],by simp[results,Tryz.results114,go_sem,Et,Eu],_,rfl,Jl,nI,hkp3⟩
def oh (w:World) (r:Nat) (v:Value) (bs:List UInt8) (pos:Nat) (e:Ending) (w':World):Prop:=
 e= .returned (.tuple #[.slice none 0 0,.int .i64 5])∧ic w' r v bs pos∧Kept (fun k _=>k=r∨w.heap.size≤k) w w'
set_option maxRecDepth 100000 in
set_option maxHeartbeats 2000000 in
theorem sM (r b:Nat) (v:Value) (bs:List UInt8) (pos:Nat) (ws:List Nat) (w:World) (h:ic w r v bs pos) (hsm:bs.length≤1000000000) (hws:∀n∈ws,n≤64) (hwl:ws.length≤1000)
 (hb:av w b 3 (dx ws).toArray) (hp:pos≤8*bs.length) (hfit:8*bs.length<pos+ws.sum):
 Calls Tryz.prog 114 #[.pointer (some ⟨r,0,none⟩),.slice (some ⟨b,0,none⟩) ws.length ws.length,.func (.func 115) #[.pointer (some ⟨r,0,none⟩)] #[]] w (oh w r v bs pos):=by
 obtain ⟨i0,hi,hz0,hz1,hz2⟩:=info_parts qK;have c1:=h.1.cell 1;simp at c1;have hrl:=h.1.lt;have hbl:=hb.lt;have hrb:b≠r:=by
  rintro rfl;have h1:=h.1;unfold av at h1 hb;rw[h1] at hb;injection hb with hb
  injection hb with _ h2
  exact absurd h2 (by decide)
 have Jh:=Lib.hid hws;have qE:=Lib.hid hsm;have HF:=Lib.hid hfit;have HP:=Lib.hid hp;clear hws hsm hfit hp;obtain ⟨N,hN⟩:∃N,ws.length=N:=⟨_,rfl⟩
 rw[hN] at hwl ⊢;have HN:=Lib.hid hN;clear hN;have c1':=(((h.1.alloc (.cells #[.pointer (some ⟨r,0,none⟩)] 125)).alloc (.cells #[.slice none 0 0] 129)).alloc (.cells #[.int .i64 0] 35)).cell 1;simp only[List.getElem?_toArray,List.getElem?_cons_zero,List.getElem?_cons_succ] at c1';have hst:jX w r v bs pos ws 0 ((((w.alloc (.cells #[.pointer (some ⟨r,0,none⟩)] 125)).alloc (.cells #[.slice none 0 0] 129)).alloc (.cells #[.int .i64 0] 35)).alloc (.cells #[.int .i64 pos] 3)) (.slice none 0 0):=by
  refine ⟨(((av.new w _ _).alloc _).alloc _).alloc _,?_,?_,?_,?_,World.ownsRow_nil _ _ _ _,((((Kept.refl _ w).alloc _).alloc _).alloc _).alloc _⟩
  ·simpa using ((av.new (w.alloc (.cells #[.pointer (some ⟨r,0,none⟩)] 125)) 129 #[.slice none 0 0]).alloc (.cells #[.int .i64 0] 35)).alloc (.cells #[.int .i64 pos] 3)
  ·simpa using (av.new ((w.alloc (.cells #[.pointer (some ⟨r,0,none⟩)] 125)).alloc (.cells #[.slice none 0 0] 129)) 35 #[.int .i64 0]).alloc (.cells #[.int .i64 pos] 3)
  ·simpa using av.new (((w.alloc (.cells #[.pointer (some ⟨r,0,none⟩)] 125)).alloc (.cells #[.slice none 0 0] 129)).alloc (.cells #[.int .i64 0] 35)) 3 #[.int .i64 pos]
  ·exact ⟨(((h.1.alloc _).alloc _).alloc _).alloc _,(((h.2.alloc _).alloc _).alloc _).alloc _⟩
 have HST:=Lib.hid hst;clear hst
 go_enter_defers Tryz.func114,Tryz.ntmps114
 go_wp2
 go_loopw [22] (fun i wr=>∃(k:Nat) (vo:Value),k≤N∧i= .int .i64 k∧jX w r v bs pos ws k wr vo∧pos+(ws.take k).sum≤8*bs.length) (fun i _=>N-(intOf i).toNat)
 case atStart=>exact ⟨0,_,Nat.zero_le _,rfl,HST.out,HP.out⟩
 case round=>
  obtain ⟨k,vo,hk,rfl,st,hpk⟩:=hrel;have Hu:=Lib.hid hpk;clear hpk;by_cases hlt:k<N
  ·obtain ⟨n,hn⟩:∃n,ws[k]? =some n:=⟨_,List.getElem?_eq_getElem (by rw[HN.out];exact hlt)⟩
   have zI:=Jh.out n (List.mem_of_getElem? hn);have hsn:=jr ws k n hn;have hga:=kH bs pos ws k n hn;have hle:=dY ws (k+1);have hbk:av wr b 3 (dx ws).toArray:=hb.kept st.kp (by rintro (e|e);exact hrb e;omega);have hcb:=hbk.cell k;have wY:wr.cell? ⟨b,k,none⟩=some (.int .i64 n):=by rw[hcb,List.getElem?_toArray];unfold dx;rw[List.getElem?_map,hn];rfl
   by_cases hfits:pos+(ws.take k).sum+n≤8*bs.length
   ·have hget:=o6 r v bs (pos+(ws.take k).sum) n wr st.rd qE.out zI hfits;have HG:=Lib.hid hget;have Be:=Lib.hid hsn;have Cq:=Lib.hid hga;have OJ:=Lib.hid hfits;clear hget hcb hsn hga hle hbk hn hfits;go_wp2_with fail;refine HG.out.mono ?_;rintro e1 w1 ⟨rfl,hr1,hk1⟩;have st1:=st.step hrl hk1;generalize val (aA bs (pos+(ws.take k).sum) n)=x at*;clear HG st wY;obtain ⟨r9,mZ,lJ,Bi,kN,zJ⟩:=st1;have co:=mZ.cell 0;simp at co;go_wp2_with (at_builtin;refine wpList_append_own _ rfl _ _ 129 rfl w.heap.size 133 i0 (.int .u64 0) 1 8 xw hi hz0 hz1 hz2 rfl (by decide) _ _ _ rfl (kN.alloc _) ⟨w1.heap.size,0,none⟩ 1 1 [.int .u64 x] rfl rfl ?c1 ?c2 ?c3 ?c4 ?c5 ?_)
    case c1=>exact cell_one_new _ _ _
    case c2=>simp[Value.oneCell']
    case c3=>unfold maxLen;omega
    case c4=>omega
    case c5=>have:=zJ.size;simp;omega
    intro v' w2 hown' hgrow _;have hin:∀j,vo.ownBlock=some j→w.heap.size≤j:=fun j hj=>(kN.lt j hj).1
    have lK:=(mZ.alloc (.cells #[.int .u64 x] 133)).grown hgrow (fun e=>au kN mZ (by decide) e.symm);have Cr:=(r9.alloc (.cells #[.int .u64 x] 133)).grown hgrow (fun e=>au kN r9 (by decide) e.symm);have Cs:=(lJ.alloc (.cells #[.int .u64 x] 133)).grown hgrow (fun e=>au kN lJ (by decide) e.symm);have Ct:=(Bi.alloc (.cells #[.int .u64 x] 133)).grown hgrow (fun e=>au kN Bi (by decide) e.symm);have hk2:Kept (fun j _=>j=r∨w.heap.size≤j) w w2:=(zJ.alloc (.cells #[.int .u64 x] 133)).grown hgrow (fun j hj o _=> .inr (hin j hj));have hr2:ic w2 r v bs (pos+(ws.take k).sum+n):=by
     refine ⟨(hr1.1.alloc _).grown hgrow (fun e=>au kN hr1.1 (by decide) e.symm),(hr1.2.alloc _).kept hgrow ?_⟩;rcases hq:v.ownBlock with _|j
     ·exact .inl rfl
     ·refine .inr (fun e=> ?_);obtain ⟨o1,ho1,⟨cs1,Ji,rfl⟩,_⟩:=aQ hr1.2 hq;obtain ⟨o2,ho2,⟨cs2,Jj,rfl⟩,_⟩:=aQ kN e.symm;rw[ho1] at ho2;cases ho2
    have Jk:=lK.cell 0;have OI:=lK.frozen 0;simp at Jk;obtain ⟨g',cap',rfl,hgl,qB⟩:=hown'.form (by omega);go_wp2
    go_roundw
    case rel=>
     refine ⟨k+1,.slice (some ⟨g',0,none⟩) (k+1) cap',by omega,by go_num,⟨Cr.far (by simp) _,by simpa using lK.aF 0 (.slice (some ⟨g',0,none⟩) (k+1) cap'),Cs.far (by simp<;>omega) _,Ct.far (by simp<;>omega) _,?_,?_,hk2.setCell (p:=⟨w.heap.size+1,0,none⟩) (fun _ _=> .inr (by simp)) _⟩,by rw[Be.out,←Nat.add_assoc];exact OJ.out⟩
     ·rw[Be.out,←Nat.add_assoc];exact ⟨hr2.1.far (by simp<;>omega) _,hr2.2.kept (ay _ _ 0 _) (.inr (au hr2.2 lK (by decide)))⟩
     ·rw[Cq.out];have:=hown'.kept (ay w2 (w.heap.size+1) 0 (.slice (some ⟨g',0,none⟩) (k+1) cap')) (.inr (au hown' lK (by decide)));simpa[o7] using this
    case measure=>simp[intOf];omega
   ·have hget:=og r v bs (pos+(ws.take k).sum) n wr st.rd Hu.out qE.out zI (by have:=Hu.out;omega);have HG:=Lib.hid hget;clear hget hcb hsn hga hle hbk hn hfits;go_wp2_with fail;refine HG.out.mono ?_;rintro e1 w1 ⟨rfl,hr1,hk1⟩;obtain ⟨r9,mZ,lJ,Bi,kN,zJ⟩:=st.step hrl hk1;clear HG st wY;have co:=mZ.cell 0;have fo:=mZ.frozen 0;have ce:=lJ.cell 0;have fe:=lJ.frozen 0;simp at co ce;have xA:av ((w1.setCell ⟨w.heap.size+1,0,none⟩ (.slice none 0 0)).setCell ⟨w.heap.size+1+1,0,none⟩ (.int .i64 5)) (w.heap.size+1+1) 35 #[.int .i64 5]:=by
     simpa using (lJ.far (p:=⟨w.heap.size+1,0,none⟩) (by simp<;>omega) (.slice none 0 0)).aF 0 (.int .i64 5)
    have xB:av ((w1.setCell ⟨w.heap.size+1,0,none⟩ (.slice none 0 0)).setCell ⟨w.heap.size+1+1,0,none⟩ (.int .i64 5)) (w.heap.size+1) 129 #[.slice none 0 0]:=by
     simpa using (mZ.aF 0 (.slice none 0 0)).far (p:=⟨w.heap.size+1+1,0,none⟩) (by simp<;>omega) (.int .i64 5)
    have Jm:=(r9.far (p:=⟨w.heap.size+1,0,none⟩) (by simp<;>omega) (.slice none 0 0)).far (p:=⟨w.heap.size+1+1,0,none⟩) (by simp<;>omega) (.int .i64 5);have Jn:=(Bi.far (p:=⟨w.heap.size+1,0,none⟩) (by simp<;>omega) (.slice none 0 0)).far (p:=⟨w.heap.size+1+1,0,none⟩) (by simp<;>omega) (.int .i64 5);have hkp3:=(zJ.setCell (p:=⟨w.heap.size+1,0,none⟩) (fun _ _=> .inr (by simp)) (.slice none 0 0)).setCell (p:=⟨w.heap.size+1+1,0,none⟩) (fun _ _=> .inr (by simp<;>omega)) (.int .i64 5);have nI:ic ((w1.setCell ⟨w.heap.size+1,0,none⟩ (.slice none 0 0)).setCell ⟨w.heap.size+1+1,0,none⟩ (.int .i64 5)) r v bs (pos+(ws.take k).sum):=
     ⟨(hr1.1.far (p:=⟨w.heap.size+1,0,none⟩) (by simp<;>omega) _).far (p:=⟨w.heap.size+1+1,0,none⟩) (by simp<;>omega) _,
      (hr1.2.kept (ay w1 (w.heap.size+1) 0 (.slice none 0 0)) (.inr (au hr1.2 mZ (by decide)))).kept (ay _ (w.heap.size+1+1) 0 (.int .i64 5)) (.inr (au hr1.2 lJ (by decide)))⟩
    go_wp2;refine leaves_cons (f:=150) (args:= #[.pointer (some ⟨w.heap.size+1+1,0,none⟩),.pointer (some ⟨w.heap.size+1+1+1,0,none⟩),.pointer (some ⟨w.heap.size,0,none⟩),.pointer (some ⟨w.heap.size+1,0,none⟩)]) (by simp) (by simp[go_sem]) ?_;refine (vg _ _ _ _ r pos _ 5 _ _ .returning _ xA rfl Jn Jm xB nI.1 (by omega)).mono ?_;rintro e u' w'' ⟨rfl,rfl,rfl⟩;have Jo:=(xA.far (p:=⟨r,1,none⟩) (by simp<;>omega) (.int .i64 pos)).far (p:=⟨w.heap.size+1,0,none⟩) (by simp<;>omega) (.slice none 0 0);have Jp:=(xB.far (p:=⟨r,1,none⟩) (by simp<;>omega) (.int .i64 pos)).aF 0 (.slice none 0 0);have Et:=Jo.cell 0;have Eu:=Jp.cell 0;simp at Et Eu;have qL:=nI.move pos;refine ⟨.tuple #[.slice none 0 0,.int .i64 5],by simp[results,Tryz.results114,go_sem,Et,Eu],rfl,⟨qL.1.far (p:=⟨w.heap.size+1,0,none⟩) (by simp<;>omega) _,qL.2.kept (ay _ (w.heap.size+1) 0 (.slice none 0 0)) (.inr (au qL.2 (xB.far (p:=⟨r,1,none⟩) (by simp<;>omega) (.int .i64 pos)) (by decide)))⟩,(hkp3.setCell (p:=⟨r,1,none⟩) (fun _ _=> .inl rfl) _).setCell (p:=⟨w.heap.size+1,0,none⟩) (fun _ _=> .inr (by simp)) _⟩
  ·have e:ws.take k=ws:=List.take_of_length_le (by rw[HN.out];omega);have:=Hu.out;have:=HF.out;rw[e] at*;omega
theorem ol (r b:Nat) (v:Value) (bs:List UInt8) (pos:Nat) (ws:List Nat) (w:World) (h:ic w r v bs pos) (hsm:bs.length≤1000000000) (hws:∀n∈ws,n≤64) (hwl:ws.length≤1000)
 (hb:av w b 3 (dx ws).toArray) (hfit:pos+ws.sum≤8*bs.length):
 Calls Tryz.prog 68 #[.pointer (some ⟨r,0,none⟩),.slice (some ⟨b,0,none⟩) ws.length ws.length] w (uo w r v bs pos ws):=by
 have hE:=zH r b v bs pos ws w h hsm hws hwl hb hfit;have HE:=Lib.hid hE;clear hE hsm hws;go_enter Tryz.func68,Tryz.ntmps68;go_wp2_with fail;refine HE.out.mono ?_;rintro e w' ⟨vo,rfl,h1,h2,h3⟩;go_wp2
 go_ret2
 exact ⟨vo,rfl,h1,h2,h3⟩
theorem jv (r b:Nat) (v:Value) (bs:List UInt8) (pos:Nat) (ws:List Nat) (w:World) (h:ic w r v bs pos) (hsm:bs.length≤1000000000) (hws:∀n∈ws,n≤64) (hwl:ws.length≤1000)
 (hb:av w b 3 (dx ws).toArray) (hp:pos≤8*bs.length) (hfit:8*bs.length<pos+ws.sum):
 Calls Tryz.prog 68 #[.pointer (some ⟨r,0,none⟩),.slice (some ⟨b,0,none⟩) ws.length ws.length] w (oh w r v bs pos):=by
 have hE:=sM r b v bs pos ws w h hsm hws hwl hb hp hfit;have HE:=Lib.hid hE;clear hE hsm hws;go_enter Tryz.func68,Tryz.ntmps68;go_wp2_with fail;refine HE.out.mono ?_;rintro e w' ⟨rfl,h2,h3⟩;go_wp2
 go_ret2
 exact ⟨rfl,h2,h3⟩
end Go.Proofs.YtiecgfahidpldaaGreat
namespace Go.Proofs.YtiecgfahidpldaaGreat
open Go.RowKit
def sN:Value→Nat
 | .slice _ n _=>n
 |_=>0
theorem sO {w:World} {base:Nat} {e:TypeId} {size n:Nat} {v:Value} {xs:List Value} (h:w.ownsRow base e size v n xs):sN v=n:=by
 rcases h.2 with ⟨rfl,h0⟩|⟨g',cap,cur,rfl,_⟩
 ·exact h0.symm
 ·rfl
theorem zK (V:Nat) (h:V<4096):bits BinOp.and IntKind.u64 (V:Int) 2047=((V%2048:Nat):Int):=by
 have h1:=u64_and_nat V 2047 (by omega) (by omega);have h1':bits BinOp.and IntKind.u64 (V:Int) 2047=((V&&& 2047:Nat):Int):=h1;rw[h1'];have:V&&& 2047=V%2048:=Nat.and_two_pow_sub_one_eq_mod V 11;rw[this]
end Go.Proofs.YtiecgfahidpldaaGreat
namespace Go.Proofs.YtiecgfahidpldaaGreat
open Go.RowKit
theorem uq:(Tryz.prog.info? 22).map (fun i=>(i.zero,i.size,i.bytes))=some (some (.slice none 0 0),1,24):=by kernel_rfl
theorem xC:Tryz.prog.underlying 34=some (.slice 22):=by kernel_rfl
theorem Sl.cut {w:World} {B n c k:Nat} {A:Option Addr} {xs:List Value} (h:Sl w B A n c xs) (hk:k≤n):Sl w B (if c=k then A else A.map (·.add k)) (n-k) (c-k) (xs.drop k):=by
 refine ⟨by rw[List.length_drop,h.len],by have:=h.cap;omega,by have:=h.mx;omega,fun hn=> ?_⟩;obtain ⟨ad,rfl,hb,hc⟩:=h.at_ (by omega);have:=h.cap;rw[if_neg (by omega)];refine ⟨ad.add k,rfl,by rw[block_add];exact hb,fun j u hu=> ?_⟩;rw[add_add];exact hc _ u (by rw[←hu,List.getElem?_drop])
def aX (w:World) (base:Nat) (vo:Value) (ps:List (List UInt8)):Prop:=
 ∃vs g cap data,w.ownsRow base 22 1 vo ps.length vs∧w.ownsRow base 5 1 (.slice (some ⟨g,0,none⟩) data.length cap) data.length (bE data)∧
  ∀(i:Nat) (p:List UInt8),ps[i]? =some p→∃off c,vs[i]? =some (Value.slice (some ⟨g,off,none⟩) p.length c)∧p.length≤c∧c≤9223372036854775807∧p=(data.drop off).take p.length
theorem aX.kept {w w':World} {base:Nat} {vo:Value} {ps:List (List UInt8)} (h:aX w base vo ps) (hk:∀k o,base≤k→w.heap[k]? =some o→w'.heap[k]? =some o):aX w' base vo ps:=by
 obtain ⟨vs,g,cap,data,h1,h2,h3⟩:=h;have go:∀{e:TypeId} {v:Value} {n:Nat} {xs:List Value},w.ownsRow base e 1 v n xs→w'.ownsRow base e 1 v n xs:=by
  intro e v n xs hh;rcases hh.2 with ⟨rfl,h0⟩|⟨g',cap,cur,rfl,h1,h2,h3⟩
  ·exact ⟨hh.1,.inl ⟨rfl,h0⟩⟩
  ·exact ⟨hh.1,.inr ⟨g',cap,cur,rfl,h1,hk _ _ h1 h2,h3⟩⟩
 exact ⟨vs,g,cap,data,go h1,go h2,h3⟩
theorem aX.base {w:World} {base base':Nat} {vo:Value} {ps:List (List UInt8)} (h:aX w base vo ps) (hb:base'≤base):aX w base' vo ps:=by
 obtain ⟨vs,g,cap,data,h1,h2,h3⟩:=h;exact ⟨vs,g,cap,data,aW h1 hb,aW h2 hb,h3⟩
theorem aX.OL {w:World} {base:Nat} {vo:Value} {ps:List (List UInt8)} (h:aX w base vo ps):∃A c vs,vo= .slice A ps.length c∧eH w w.heap.size A ps.length c vs ps:=by
 obtain ⟨vs,g,cap,data,h1,h2,h3⟩:=h;obtain ⟨A,c,rfl,hs,_⟩:=aK h1;refine ⟨A,c,vs,rfl,hs,rfl,fun i p hi=> ?_⟩;obtain ⟨off,ci,e,hc1,hc2,hp⟩:=h3 i p hi;refine ⟨_,ci,e,⟨by simp,hc1,hc2,fun hpos=>⟨_,rfl,(h2.lt g rfl).2,fun j u hu=> ?_⟩⟩⟩;have hj:j<p.length:=by
  have:=(List.getElem?_eq_some_iff.1 hu).1;simpa using this
 have hcell:=h2.cells (g:=g) rfl (off+j) u (by
  unfold bE at hu ⊢;rw[List.getElem?_map] at hu ⊢;rw[hp,List.getElem?_take,if_pos hj,List.getElem?_drop] at hu;exact hu)
 have e2:(⟨g,off,none⟩:Addr).add j=(⟨g,0,none⟩:Addr).add (off+j):=by
  unfold Addr.add;by_cases hj0:j=0
  ·subst hj0;by_cases ho:off=0
   ·simp[ho]
   ·simp[ho]
  ·simp[hj0]
 rw[e2];exact hcell
def cu (g:Nat) (ls:List Nat) (k:Nat):List Value:=(List.range k).map fun i=> .slice (some ⟨g,(ls.take i).sum,none⟩) (ls[i]?.getD 0) (ls[i]?.getD 0)
theorem nJ (g:Nat) (ls:List Nat) (k n:Nat) (h:ls[k]? =some n):cu g ls (k+1)=cu g ls k++ [.slice (some ⟨g,(ls.take k).sum,none⟩) n n]:=by
 simp[cu,List.range_succ,h]
end Go.Proofs.YtiecgfahidpldaaGreat
namespace Go.Proofs.YtiecgfahidpldaaGreat
open Go.RowKit
def iK (P:Program) (fn:Func) (c₀:Frame) (cs cs':List Frame) (R:Ending→FrameMode→World→Prop) (e:Exit) (a:Act) (w:World):Prop:=bodyPostS P fn c₀ cs R e a cs' w
theorem jw (er:Int) (w:World):(Instr.typeAssert (.iface 35 (.int .i64 er)) 20 35 true).run Tryz.prog w= .ok (.tuple #[.int .i64 er,.bool true]) w:=by kernel_rfl
end Go.Proofs.YtiecgfahidpldaaGreat
namespace Go.Proofs.YtiecgfahidpldaaGreat
open Go.RowKit
end Go.Proofs.YtiecgfahidpldaaGreat
namespace Go.Proofs.YtiecgfahidpldaaGreat
open Go.RowKit
end Go.Proofs.YtiecgfahidpldaaGreat
namespace Go.Proofs.YtiecgfahidpldaaGreat
open Go.RowKit
end Go.Proofs.YtiecgfahidpldaaGreat
namespace Go.Proofs.YtiecgfahidpldaaGreat
open Go.RowKit
theorem o8 (ps:List (List UInt8)) (M:Nat) (h:∀p∈ps,p.length≤M):aB ps≤M*ps.length:=by
 induction ps with
 |nil=>simp[aB]
 |cons p ps ih=>
  have h1:=h p (by simp);have h2:=ih (fun q hq=>h q (by simp[hq]));unfold aB at h2 ⊢;rw[List.map_cons,List.sum_cons,List.length_cons,Nat.mul_succ];omega
def Cu (b:Bool) (w:World) (e:Ending) (w':World):Prop:=e= .returned (.bool b)∧Below w.heap.size w w'
end Go.Proofs.YtiecgfahidpldaaGreat
namespace Go.Proofs.YtiecgfahidpldaaGreat
open Go.RowKit
end Go.Proofs.YtiecgfahidpldaaGreat
namespace Go.Proofs.YtiecgfahidpldaaGreat
open Go.RowKit
theorem und5:Tryz.prog.underlying 5=some (.int .u8):=by kernel_rfl
theorem Ev:Tryz.prog.underlying 9=some .string:=by kernel_rfl
theorem o9 {w:World} {B n c:Nat} {A:Option Addr} {l:List UInt8} (h:Sl w B A n c (bE l)):(convert 22 9 (.slice A n c)).run Tryz.prog w= .ok (.string ⟨l.toArray⟩) w:=by
 have hl:l.length=n:=by simpa using h.len
 subst hl;rcases A with _|a
 ·have h0:l.length=0:=by
   rcases Nat.eq_zero_or_pos l.length with h0|h0
   ·exact h0
   ·obtain ⟨_,e,_⟩:=h.at_ h0;cases e
  have:l= []:=List.eq_nil_of_length_eq_zero h0;subst this;exact Lib.run_convert_nil_bytes w 22 9 5 c und29 und5 Ev
 ·refine run_convert_bytes_back w 22 9 5 a c l und29 und5 Ev (fun j hj=> ?_);obtain ⟨ad,e,_,hc⟩:=h.at_ (by omega);injection e with e
  subst e;refine hc j _ ?_;unfold bE;rw[List.getElem?_map,List.getElem?_eq_getElem hj];rfl
end Go.Proofs.YtiecgfahidpldaaGreat
namespace Go.Proofs.YtiecgfahidpldaaGreat
open Go.RowKit
theorem pq {w:World} {b:Nat} {cs:Array Value} {t:TypeId} {fr:Nat × Nat} {xs:List Value} (h:w.heap[b]? =some (.cells cs t fr)) (e:cs.toList=xs) (hn:xs.length≤9223372036854775807):Sl w w.heap.size (some ⟨b,0,none⟩) xs.length xs.length xs:=
 ⟨rfl,Nat.le_refl _,hn,fun _=>⟨_,rfl,lt_of_heap h,fun j u hu=>by rw[←e] at hu;exact World.news_of_block h j u hu⟩⟩
theorem jy (w:World) (o:Obj):(w.alloc o).heap[w.heap.size]? =some o:=heap_alloc_new w o
end Go.Proofs.YtiecgfahidpldaaGreat
namespace Go.Proofs.YtiecgfahidpldaaGreat
open Go.RowKit
end Go.Proofs.YtiecgfahidpldaaGreat
namespace Go.Proofs.YtiecgfahidpldaaGreat
open Go.RowKit
end Go.Proofs.YtiecgfahidpldaaGreat
namespace Go.Proofs.YtiecgfahidpldaaGreat
open Go.RowKit
end Go.Proofs.YtiecgfahidpldaaGreat
namespace Go.Proofs.YtiecgfahidpldaaGreat
open Go.RowKit
set_option maxHeartbeats 400000 in
theorem nK (b:Nat) (dF:List Value) (bs:List Bool) (Inv:World→Prop) (w:World) (hlen:bs.length=dF.length) (hsm:dF.length≤1000) (hI:∀W,Inv W→av W b 27 dF.toArray)
 (hcall:∀(i:Nat) (fv:Value) (x:Bool) (W:World),dF[i]? =some fv→bs[i]? =some x→(∀y∈bs.take i,y=true)→Inv W→Calls Tryz.prog 153 #[fv] W fun e W'=>e= .returned (.bool (!x))∧Inv W')
 (h0:Inv w):Calls Tryz.prog 174 #[.slice (some ⟨b,0,none⟩) dF.length dF.length,.func (.func 153) #[] #[]] w (nZ bs Inv):=by
 have HC:=Lib.hid hcall;have HI:=Lib.hid hI;have HL:=Lib.hid hlen;clear hcall hI hlen;obtain ⟨N,hN⟩:∃N,N=dF.length:=⟨_,rfl⟩
 rw[←hN] at hsm ⊢;have HN:=Lib.hid hN;clear hN;go_enter Tryz.func174,Tryz.ntmps174;go_wp2
 go_loopw [8] (fun i wr=>∃k:Nat,k≤N∧i= .int .i64 k∧(∀y∈bs.take k,y=true)∧Inv wr) (fun i _=>N-(intOf i).toNat)
 case atStart=>exact ⟨0,Nat.zero_le _,rfl,by simp,h0⟩
 case round=>
  clear h0;obtain ⟨k,hk,rfl,hall,hinv⟩:=hrel;have HA:=Lib.hid hall;clear hall;by_cases hlt:k<N
  ·obtain ⟨fv,bS⟩:∃fv,dF[k]? =some fv:=⟨_,List.getElem?_eq_getElem (by rw[←HN.out];exact hlt)⟩
   obtain ⟨x,hx⟩:∃x,bs[k]? =some x:=⟨_,List.getElem?_eq_getElem (by rw[HL.out,←HN.out];exact hlt)⟩
   have hcl:=HC.out k fv x wr bS hx HA.out hinv;have hcell:=(HI.out wr hinv).cell k;rw[List.getElem?_toArray,bS] at hcell;have qI:=Lib.hid hcl;have HX:=Lib.hid hx;clear hcl bS hx;cases x with
   |true=>
    go_wp2_with (go_at_call 153;refine qI.out.mono ?_;rintro e w' ⟨rfl,hi'⟩)
    go_roundw
    case rel=>exact ⟨k+1,by omega,by go_num,by
     intro y hy;rw[List.take_add_one,HX.out,List.mem_append] at hy;rcases hy with hy|hy
     ·exact HA.out y hy
     ·simpa using hy,hi'⟩
    case measure=>simp[intOf];omega
   |false=>
    go_wp2_with (go_at_call 153;refine qI.out.mono ?_;rintro e w' ⟨rfl,hi'⟩);go_ret;refine ⟨.inl ⟨k,rfl,?_⟩,hi'⟩;rw[List.all_eq_false];exact ⟨false,List.mem_of_getElem? HX.out,by simp⟩
  ·have e:bs.take k=bs:=List.take_of_length_le (by rw[HL.out,←HN.out];omega);have hA:=HA.out;rw[e] at hA;have uY:=Lib.hid hA;clear hA e;go_wp2;go_ret;exact ⟨.inr ⟨rfl,by rw[List.all_eq_true];exact uY.out⟩,hinv⟩
theorem jY (b:Nat) (dF:List Value) (bs:List Bool) (Inv:World→Prop) (w:World)
 (h:Calls Tryz.prog 174 #[.slice (some ⟨b,0,none⟩) dF.length dF.length,.func (.func 153) #[] #[]] w (nZ bs Inv)):
 Calls Tryz.prog 152 #[.slice (some ⟨b,0,none⟩) dF.length dF.length,.func (.func 153) #[] #[]] w fun e w'=>e= .returned (.bool (!bs.all id))∧Inv w':=by
 have H:=Lib.hid h;clear h;go_enter Tryz.func152,Tryz.ntmps152;go_wp2_with fail;refine H.out.mono ?_;rintro e w' ⟨⟨k,rfl,ha⟩|⟨rfl,ha⟩,hi⟩
 ·have HA:=Lib.hid ha;clear ha;go_wp2;go_ret;exact ⟨aG (by rw[HA.out];rfl),hi⟩
 ·have HA:=Lib.hid ha;clear ha;go_wp2;go_ret;exact ⟨aG (by rw[HA.out];rfl),hi⟩
theorem xD (b:Nat) (dF:List Value) (bs:List Bool) (Inv:World→Prop) (w:World)
 (h:Calls Tryz.prog 152 #[.slice (some ⟨b,0,none⟩) dF.length dF.length,.func (.func 153) #[] #[]] w fun e w'=>e= .returned (.bool (!bs.all id))∧Inv w'):
 Calls Tryz.prog 121 #[.slice (some ⟨b,0,none⟩) dF.length dF.length] w fun e w'=>e= .returned (.bool (bs.all id))∧Inv w':=by
 have H:=Lib.hid h;clear h;go_enter Tryz.func121,Tryz.ntmps121;go_wp2_with fail;refine H.out.mono ?_;rintro e w' ⟨rfl,hi⟩;go_wp2;go_ret;exact ⟨aG (by simp),hi⟩
def bC (sn:Int) (po sg la:Bool) (off:Int) (s e:Bool) (A:Option Addr) (n c:Nat):Array Value:= #[.int .i64 sn,.bool po,.bool sg,.bool la,.int .i64 off,.bool s,.bool e,.slice A n c]
def iq (sn:Int) (sg la:Bool) (off:Int) (ps:List (List UInt8)):List Bool:=
 [decide (0≤sn∧sn<1024),iV ps,if sg then decide (0≤off∧off≤32767-(aB ps:Int)) else !la&&decide (off=0)]
def fI (sn:Int) (sg la:Bool) (off:Int) (ps:List (List UInt8)):Bool:=(iq sn sg la off ps).all id
theorem av.eight {w:World} {g:Nat} {t:TypeId} {x0 x1 x2 x3 x4 x5 x6 x7:Value} (b:av w g t #[x0,x1,x2,x3,x4,x5,x6,x7]):
 w.cell? ⟨g,0,none⟩=some x0∧w.cell? ⟨g,1,none⟩=some x1∧w.cell? ⟨g,2,none⟩=some x2∧w.cell? ⟨g,3,none⟩=some x3∧w.cell? ⟨g,4,none⟩=some x4∧w.cell? ⟨g,5,none⟩=some x5∧w.cell? ⟨g,6,none⟩=some x6∧w.cell? ⟨g,7,none⟩=some x7:=
 ⟨b.cell 0,b.cell 1,b.cell 2,b.cell 3,b.cell 4,b.cell 5,b.cell 6,b.cell 7⟩
section
variable (bp:Nat) (sn:Int) (po sg la:Bool) (off:Int) (s e:Bool) (A:Option Addr) (n c:Nat) (vs:List Value) (ps:List (List UInt8)) (w:World)
theorem Cv (hb:av w bp 72 (bC sn po sg la off s e A n c)):
 Calls Tryz.prog 119 #[.pointer (some ⟨bp,0,none⟩)] w fun e w'=>e= .returned (.bool (!la&&decide (off=0)))∧w=w':=by
 obtain ⟨x0,x1,x2,x3,x4,x5,x6,x7⟩:=hb.eight;have hd:(off==0)=decide (off=0):=by rw[Bool.eq_iff_iff];simp
 generalize decide (off=0)=d at*;cases la with
 |false=>
  go_enter Tryz.func119,Tryz.ntmps119;go_wp2;go_ret;exact ⟨rfl,rfl⟩
 |true=>
  go_enter Tryz.func119,Tryz.ntmps119;go_wp2;go_ret;exact ⟨rfl,rfl⟩
theorem Cw (hb:av w bp 72 (bC sn po sg la off s e A n c)):
 Calls Tryz.prog 122 #[.pointer (some ⟨bp,0,none⟩)] w fun e w'=>e= .returned (.bool (decide (0≤sn∧sn<1024)))∧w=w':=by
 obtain ⟨x0,x1,x2,x3,x4,x5,x6,x7⟩:=hb.eight;by_cases h0:0≤sn
 ·by_cases h1:sn<1024
  ·rw[decide_eq_true (p:=0≤sn∧sn<1024) ⟨h0,h1⟩];go_enter Tryz.func122,Tryz.ntmps122;go_wp2;go_ret;exact ⟨rfl,rfl⟩
  ·rw[decide_eq_false (p:=0≤sn∧sn<1024) (by omega)];go_enter Tryz.func122,Tryz.ntmps122;go_wp2;go_ret;exact ⟨rfl,rfl⟩
 ·rw[decide_eq_false (p:=0≤sn∧sn<1024) (by omega)];go_enter Tryz.func122,Tryz.ntmps122;go_wp2;go_ret;exact ⟨rfl,rfl⟩
theorem Cx (h:eH w w.heap.size A n c vs ps) (hn:n≤1048576) (hle:∀p∈ps,p.length≤1099511627776) (hb:av w bp 72 (bC sn po sg la off s e A n c)):
 Calls Tryz.prog 123 #[.pointer (some ⟨bp,0,none⟩)] w fun e w'=>e= .returned (.bool (iV ps))∧Below w.heap.size w w':=by
 obtain ⟨x0,x1,x2,x3,x4,x5,x6,x7⟩:=hb.eight;have hv:=ve s e A n c vs ps w h hn hle;have HV:=Lib.hid hv;clear hv hle;generalize iV ps=r at*;go_enter Tryz.func123,Tryz.ntmps123;go_wp2_with (go_at_call 124;refine HV.out.mono ?_;rintro e w' ⟨rfl,hb⟩);go_ret;exact ⟨rfl,hb⟩
set_option maxRecDepth 100000 in
set_option maxHeartbeats 800000 in
theorem Cy (h:eH w w.heap.size A n c vs ps) (hn:n≤1048576) (hle:∀p∈ps,p.length≤1099511627776) (hb:av w bp 72 (bC sn po sg la off s e A n c)):
 Calls Tryz.prog 120 #[.pointer (some ⟨bp,0,none⟩)] w fun e w'=>e= .returned (.bool (decide (0≤off∧off≤32767-(aB ps:Int))))∧Below w.heap.size w w':=by
 obtain ⟨x0,x1,x2,x3,x4,x5,x6,x7⟩:=hb.eight;by_cases h0:0≤off
 ·have hsz:=lH s e A n c vs ps w.drew h.drew' hn hle;have hsum:aB ps≤1152921504606846976:=by
   have:=o8 ps _ hle;have h2:=h.len;have:1099511627776*ps.length≤1099511627776*1048576:=Nat.mul_le_mul_left _ (by omega);omega
  have HZ:=Lib.hid hsz;clear hsz hle;generalize aB ps=S at*;have hd0:decide (0≤off)=true:=by simpa using h0
  have hdd:decide (0≤off∧off≤32767-(S:Int))=decide (off≤32767-(S:Int)):=by simp[h0]
  rw[hdd];clear hdd;go_enter Tryz.func120,Tryz.ntmps120;go_wp2;have hbp:bp<w.drew.heap.size:=hb.lt
  go_region_held3 (fun w'=>w'.cell? ⟨bp,4,none⟩=some (.int .i64 off)∧w'.cell? ⟨bp,5,none⟩=some (.bool s)∧w'.cell? ⟨bp,6,none⟩=some (.bool e)∧w'.cell? ⟨bp,7,none⟩=some (.slice A n c))
   (first|(refine ⟨(hb1.cell (p:=⟨bp,4,none⟩) hbp).trans x4,(hb1.cell (p:=⟨bp,5,none⟩) hbp).trans x5,(hb1.cell (p:=⟨bp,6,none⟩) hbp).trans x6,(hb1.cell (p:=⟨bp,7,none⟩) hbp).trans x7⟩)|go_keep)
   ((go_at_call 72;refine HZ.out.mono ?_;rintro e1 w1 ⟨rfl,hb1⟩))
  go_wp2;go_ret;refine ⟨aG ?_,((Below.refl w.heap.size w).drew).trans hb1⟩;rw[IntWalk.i64_in _ (by omega)]
 ·rw[decide_eq_false (p:=0≤off∧off≤32767-(aB ps:Int)) (by omega)];have hd0:decide (0≤off)=false:=by simpa using h0
  clear hle h;go_enter Tryz.func120,Tryz.ntmps120;go_wp2
  go_quiet (fail)
  go_wp2;go_ret;exact ⟨rfl,(Below.refl _ w).drewN _⟩
theorem pu (vk:Nat) (x:Bool) (hf:vk=119∨vk=120∨vk=122∨vk=123) (h:Calls Tryz.prog vk #[.pointer (some ⟨bp,0,none⟩)] w fun e w'=>e= .returned (.bool x)∧Below w.heap.size w w'):
 Calls Tryz.prog 153 #[.func (.func vk) #[] #[.pointer (some ⟨bp,0,none⟩)]] w fun e w'=>e= .returned (.bool (!x))∧Below w.heap.size w w':=by
 have H:=Lib.hid h;clear h;rcases hf with rfl|rfl|rfl|rfl
 ·go_enter Tryz.func153,Tryz.ntmps153;go_wp2_with (go_at_call 119;refine H.out.mono ?_;rintro e w' ⟨rfl,hb⟩);go_ret;exact ⟨rfl,hb⟩
 ·go_enter Tryz.func153,Tryz.ntmps153;go_wp2_with (go_at_call 120;refine H.out.mono ?_;rintro e w' ⟨rfl,hb⟩);go_ret;exact ⟨rfl,hb⟩
 ·go_enter Tryz.func153,Tryz.ntmps153;go_wp2_with (go_at_call 122;refine H.out.mono ?_;rintro e w' ⟨rfl,hb⟩);go_ret;exact ⟨rfl,hb⟩
 ·go_enter Tryz.func153,Tryz.ntmps153;go_wp2_with (go_at_call 123;refine H.out.mono ?_;rintro e w' ⟨rfl,hb⟩);go_ret;exact ⟨rfl,hb⟩
theorem sP (b:Nat) (h:eH w w.heap.size A n c vs ps) (hn:n≤1048576) (hle:∀p∈ps,p.length≤1099511627776) (hbp:av w bp 72 (bC sn po sg la off s e A n c)) (f3:Nat) (hf3:f3=if sg then 120 else 119)
 (hb:av w b 27 #[.func (.func 122) #[] #[.pointer (some ⟨bp,0,none⟩)],.func (.func 123) #[] #[.pointer (some ⟨bp,0,none⟩)],.func (.func f3) #[] #[.pointer (some ⟨bp,0,none⟩)]]):
 Calls Tryz.prog 121 #[.slice (some ⟨b,0,none⟩) 3 3] w fun e w'=>e= .returned (.bool (fI sn sg la off ps))∧Below w.heap.size w w':=by
 refine xD b [.func (.func 122) #[] #[.pointer (some ⟨bp,0,none⟩)],.func (.func 123) #[] #[.pointer (some ⟨bp,0,none⟩)],.func (.func f3) #[] #[.pointer (some ⟨bp,0,none⟩)]] (iq sn sg la off ps) (fun W=>Below w.heap.size w W) w ?_;refine jY b _ (iq sn sg la off ps) (fun W=>Below w.heap.size w W) w ?_;refine nK b _ (iq sn sg la off ps) (fun W=>Below w.heap.size w W) w rfl (by simp) (fun W hW=>hb.below hW hb.lt) ?_ (Below.refl _ _);intro i fv x W bS hx hpre hW;have hS:=(h.below hW).more hW.size;have hbW:=hbp.below hW hbp.lt;have key:Calls Tryz.prog 153 #[fv] W fun e W'=>e= .returned (.bool (!x))∧Below W.heap.size W W':=by
  match i,bS,hx,hpre with
  |0,bS,hx,_=>
   simp only[iq,List.getElem?_cons_zero,Option.some.injEq] at bS hx;subst bS hx;exact pu bp W 122 _ (by omega) ((Cw bp sn po sg la off s e A n c W hbW).mono fun e W' hh=>⟨hh.1,by rw[←hh.2];exact Below.refl _ _⟩)
  |1,bS,hx,_=>
   simp only[iq,List.getElem?_cons_zero,List.getElem?_cons_succ,Option.some.injEq] at bS hx;subst bS hx;exact pu bp W 123 _ (by omega) (Cx bp sn po sg la off s e A n c vs ps W hS hn hle hbW)
  |2,bS,hx,_=>
   simp only[iq,List.getElem?_cons_zero,List.getElem?_cons_succ,Option.some.injEq] at bS hx;subst bS hx;cases sg with
   |true=>
    simp only[if_true] at hf3 ⊢;subst hf3;exact pu bp W 120 _ (by omega) (Cy bp sn po true la off s e A n c vs ps W hS hn hle hbW)
   |false=>
    simp only[Bool.false_eq_true,if_false] at hf3 ⊢;subst hf3;exact pu bp W 119 _ (by omega) ((Cv bp sn po false la off s e A n c W hbW).mono fun e W' hh=>⟨hh.1,by rw[←hh.2];exact Below.refl _ _⟩)
  |i+3,bS,_,_=>simp at bS
 exact key.mono fun e W' hh=>⟨hh.1,hW.trans (hh.2.mono hW.size)⟩
set_option maxHeartbeats 800000 in
theorem sQ (h:eH w w.heap.size A n c vs ps) (hn:n≤1048576) (hle:∀p∈ps,p.length≤1099511627776):
 Calls Tryz.prog 71 #[.agg (bC sn po sg la off s e A n c)] w (Cu (fI sn sg la off ps) w):=by
 have Hr:=Lib.hid hle;clear hle;obtain ⟨f3,hf3⟩:∃f3,f3=if sg then 120 else 119:=⟨_,rfl⟩
 have hB:=(((Below.refl w.heap.size w).alloc (Nat.le_refl _) (.cells (bC sn po sg la off s e A n c) 72))).alloc (by simp) (.cells #[.func (.func 122) #[] #[.pointer (some ⟨w.heap.size,0,none⟩)],.func (.func 123) #[] #[.pointer (some ⟨w.heap.size,0,none⟩)],.func (.func f3) #[] #[.pointer (some ⟨w.heap.size,0,none⟩)]] 27);have b0:=(av.new w 72 (bC sn po sg la off s e A n c)).alloc (.cells #[.func (.func 122) #[] #[.pointer (some ⟨w.heap.size,0,none⟩)],.func (.func 123) #[] #[.pointer (some ⟨w.heap.size,0,none⟩)],.func (.func f3) #[] #[.pointer (some ⟨w.heap.size,0,none⟩)]] 27);have b1:=av.new (w.alloc (.cells (bC sn po sg la off s e A n c) 72)) 27 #[.func (.func 122) #[] #[.pointer (some ⟨w.heap.size,0,none⟩)],.func (.func 123) #[] #[.pointer (some ⟨w.heap.size,0,none⟩)],.func (.func f3) #[] #[.pointer (some ⟨w.heap.size,0,none⟩)]];simp only[World.size_alloc] at b1;have hall:=sP w.heap.size sn po sg la off s e A n c vs ps _ (w.heap.size+1) ((h.below hB).more hB.size) hn Hr.out b0 f3 hf3 b1;have iW:=Lib.hid hall;have HB:=Lib.hid hB;clear hall b0 b1 hB;generalize fI sn sg la off ps=r at*;unfold bC at*;cases sg with
 |true=>
  simp only[if_true] at hf3;subst hf3;go_enter Tryz.func71,Tryz.ntmps71;go_wp2_with (go_at_call 121;refine iW.out.mono ?_;rintro e w' ⟨rfl,hb⟩);go_ret;exact ⟨rfl,HB.out.trans (hb.mono HB.out.size)⟩
 |false=>
  simp only[Bool.false_eq_true,if_false] at hf3;subst hf3;go_enter Tryz.func71,Tryz.ntmps71;go_wp2_with (go_at_call 121;refine iW.out.mono ?_;rintro e w' ⟨rfl,hb⟩);go_ret;exact ⟨rfl,HB.out.trans (hb.mono HB.out.size)⟩
end
end Go.Proofs.YtiecgfahidpldaaGreat
namespace Go.Proofs.YtiecgfahidpldaaGreat
open Go.RowKit
end Go.Proofs.YtiecgfahidpldaaGreat
namespace Go.Proofs.YtiecgfahidpldaaGreat
def lb:List Nat→List Bool
 | []=> []
 |n::l=>(bitsOf (decide (0<l.length)).toNat 1++bitsOf n 11)++lb l
end Go.Proofs.YtiecgfahidpldaaGreat
namespace Go.Proofs.YtiecgfahidpldaaGreat
theorem jA (bs:List UInt8):∀(f:Nat) (more:Bool) (pos:Nat) (acc:List Nat) (er:Nat),bM bs f more pos acc= .inl er→er≠0
 |_,false,pos,acc,er,h=>by simp[bM] at h
 |0,true,_,_,er,h=>by simp[bM] at h;omega
 |f+1,true,pos,acc,er,h=>by
  simp only[bM] at h;split at h
  ·cases h;omega
  ·split at h
   ·cases h;omega
   ·exact jA bs f _ _ _ er h
end Go.Proofs.YtiecgfahidpldaaGreat
namespace Go.Proofs.YtiecgfahidpldaaGreat
open Go.RowKit
end Go.Proofs.YtiecgfahidpldaaGreat
namespace Go.Proofs.YtiecgfahidpldaaGreat
open Go.RowKit
end Go.Proofs.YtiecgfahidpldaaGreat
namespace Go.Proofs.YtiecgfahidpldaaGreat
open Go.RowKit
theorem uw {w:World} {base:Nat} {e:TypeId} {A:Option Addr} {c n:Nat} {xs:List Value} (h:w.ownsRow base e 1 (.slice A n c) n xs):Sl w w.heap.size A n c xs:=by
 obtain ⟨A',c',he,hs,_⟩:=aK h;cases he;exact hs
theorem aD {w:World} {base:Nat} {e t:TypeId} {v:Value} {n g i:Nat} {xs:List Value} {cs:Array Value} (h:w.ownsRow base e 1 v n xs) (hg:av w g t cs) (hne:e≠t) (u:Value):(w.setCell ⟨g,i,none⟩ u).ownsRow base e 1 v n xs:=
 h.kept (ay w g i u) (.inr (au h hg hne))
end Go.Proofs.YtiecgfahidpldaaGreat
namespace Go.Proofs.YtiecgfahidpldaaGreat
open Go.RowKit
end Go.Proofs.YtiecgfahidpldaaGreat
namespace Go.Proofs.YtiecgfahidpldaaGreat
open Go.RowKit
theorem uy (W:World) (x:Value) (t:TypeId):Sl (W.alloc (.cells #[x] t)).drew (W.alloc (.cells #[x] t)).heap.size (some ⟨W.heap.size,0,none⟩) 1 1 [x]:=
 (pq (xs:= [x]) (jy W (.cells #[x] t)) rfl (by simp)).drew
end Go.Proofs.YtiecgfahidpldaaGreat
