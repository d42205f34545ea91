/- The bit reader: NewReader, Left, Get, At. -/
import Derived.Test.YtbhiklnljiehiaaGreatM2ac
import Derived.Defers
import Derived.Recover
namespace Go.Proofs.YtbhiklnljiehiaaGreat
open Go.RowKit
def jO (w:World) (r:Nat) (v:Value) (bs:List UInt8) (pos:Nat):Prop:=
 au w r 262 #[v,.int .i64 pos]∧w.ownsRow 0 5 1 v bs.length (bO bs)
theorem jO.drewN {w:World} {r:Nat} {v:Value} {bs:List UInt8} {pos:Nat} (h:jO w r v bs pos) (k:Nat):jO (w.drewN k) r v bs pos:=h
theorem jA {w w':World} {M:Nat→Obj→Prop} {base:Nat} {e:TypeId} {size n:Nat} {v:Value} {xs:List Value} (h:w.ownsRow base e size v n xs) (hk:Kept M w w') (hM:∀k o,Kw o e→v.ownBlock=some k→¬M k o):w'.ownsRow base e size v n xs:=by
 rcases h.2 with ⟨rfl,h0⟩|⟨g',cap,cur,rfl,h1,h2,h3⟩
 ·exact ⟨h.1,.inl ⟨rfl,h0⟩⟩
 ·exact ⟨h.1,.inr ⟨g',cap,cur,rfl,h1,hk.same _ _ h2 (hM _ _ ⟨_,_,rfl⟩ rfl),h3⟩⟩
theorem jO.move {w:World} {r:Nat} {v:Value} {bs:List UInt8} {pos:Nat} (h:jO w r v bs pos) (q:Nat):jO (w.setCell ⟨r,1,none⟩ (.int .i64 q)) r v bs q:=
 ⟨by simpa using h.1.av 1 (.int .i64 q),h.2.kept (aO w r 1 _) (.inr (aJ h.2 h.1 (by decide)))⟩
theorem yK (r:Nat) (v:Value) (bs:List UInt8) (pos:Nat) (w:World) (h:jO w r v bs pos) (hp:pos≤8*bs.length) (hsm:bs.length≤1000000000):
 Calls Tryz.prog 182 #[.pointer (some ⟨r,0,none⟩)] w fun e w'=>e= .returned (.int .i64 ((8*bs.length-pos:Nat):Int))∧∃k,w.drewN k=w':=by
 obtain ⟨A,c,rfl,_⟩:=bq h.2;have c0:=h.1.cell 0;have c1:=h.1.cell 1;simp at c0 c1;have e1:(8*(bs.length:Int)-pos)=((8*bs.length-pos:Nat):Int):=by omega
 go_enter Tryz.func182,Tryz.ntmps182;go_wp2
 go_quiet (fail)
 go_wp2;go_ret;refine ⟨lZ ?_,_,rfl⟩
 go_num
theorem VP (r:Nat) (v:Value) (bs:List UInt8) (pos:Nat) (w:World) (h:jO w r v bs pos):
 Calls Tryz.prog 189 #[.pointer (some ⟨r,0,none⟩)] w fun e w'=>e= .returned (.int .i64 pos)∧w=w':=by
 have c1:=h.1.cell 1;simp at c1;go_enter Tryz.func189,Tryz.ntmps189;go_wp2;go_ret;exact ⟨rfl,rfl⟩
theorem or_bit (V:Nat) (b:UInt8) (j:Nat) (hV:V<9223372036854775808):
 bits BinOp.or IntKind.u64 ((V:Int)*2) (IntKind.u64.wrap (bits BinOp.and IntKind.u8 ((b.toNat:Int)/2 ^ j) 1))=((2*V+(decide (b.toNat/2 ^ j%2=1)).toNat:Nat):Int):=by
 have hb:b.toNat<256:=b.toNat_lt;have e:(b.toNat:Int)/2 ^ j=((b.toNat/2 ^ j:Nat):Int):=by push_cast;rfl
 have hle:b.toNat/2 ^ j≤b.toNat:=Nat.div_le_self _ _;have h1:=u8_and_nat (b.toNat/2 ^ j) 1 (by omega) (by omega);have h1':bits BinOp.and IntKind.u8 ((b.toNat/2 ^ j:Nat):Int) 1=((b.toNat/2 ^ j&&& 1:Nat):Int):=h1;rw[e,h1',Nat.and_one_is_mod,IntKind.wrap_u64];have hm:=Nat.mod_two_eq_zero_or_one (b.toNat/2 ^ j);generalize b.toNat/2 ^ j%2=x at*;have e2:((x:Nat):Int)%18446744073709551616=((x*2 ^ 0:Nat):Int):=by omega
 have e3:(V:Int)*2=((2*V:Nat):Int):=by omega
 rw[e2,e3,u64_or_nat (2*V) (x*2 ^ 0) (by omega) (by omega),NQ (2*V) x 0 (by omega) (by omega)];rcases hm with rfl|rfl<;>simp
def Uv (w:World) (r:Nat) (v:Value) (bs:List UInt8) (x:Nat) (er:Int) (pos:Nat) (e:Ending) (w':World):Prop:=
 e= .returned (.tuple #[.int .u64 x,.int .i64 er])∧jO w' r v bs pos∧Kept (fun k _=>k=r) w w'
set_option maxHeartbeats 400000 in
theorem Ck (r:Nat) (v:Value) (bs:List UInt8) (pos n:Nat) (w:World) (h:jO w r v bs pos) (hp:pos≤8*bs.length) (hsm:bs.length≤1000000000) (hn:n≤64) (hs:8*bs.length-pos<n):
 Calls Tryz.prog 175 #[.pointer (some ⟨r,0,none⟩),.int .i64 n] w (Uv w r v bs 0 5 pos):=by
 have hl:=yK r v bs pos w h hp hsm;have Zf:=ah hl;generalize 8*bs.length-pos=m at*;clear hl hp hsm;go_enter Tryz.func175,Tryz.ntmps175;go_wp2_with (go_at_call 182;refine Zf.out.mono ?_;rintro e w' ⟨rfl,q,rfl⟩)
 go_ret2
 exact ⟨rfl,h.drewN _,(Kept.refl _ w).drewN _⟩
set_option maxHeartbeats 800000 in
theorem DF (r:Nat) (v:Value) (bs:List UInt8) (pos n:Nat) (w:World) (h:jO w r v bs pos) (hsm:bs.length≤1000000000) (hn:n≤64) (hs:pos+n≤8*bs.length):
 Calls Tryz.prog 175 #[.pointer (some ⟨r,0,none⟩),.int .i64 n] w (Uv w r v bs (val (aF bs pos n)) 0 (pos+n)):=by
 have hl:=yK r v bs pos w h (by omega) hsm;have Zf:=ah hl;obtain ⟨m,hm⟩:∃m,m=8*bs.length-pos:=⟨_,rfl⟩
 rw[←hm] at Zf;have hnm:n≤m:=by omega
 clear hl hm;go_enter Tryz.func175,Tryz.ntmps175;go_wp2_with (go_at_call 182;refine Zf.out.mono ?_;rintro e w' ⟨rfl,q,rfl⟩)
 replace h:=h.drewN q
 have hk0:=(Kept.refl (fun k _=>k=r) w).drewN q;generalize w.drewN q=w1 at*;clear Zf
 go_loopw [4,22] (fun t i wr=>∃k:Nat,k≤n∧i= .int .i64 k∧t= .int .u64 (val (aF bs pos k))∧jO wr r v bs (pos+k)∧Kept (fun k _=>k=r) w wr) (fun _ i _=>n-(intOf i).toNat)
 case atStart=>exact ⟨0,Nat.zero_le _,rfl,rfl,h,hk0⟩
 case round=>
  clear h hk0;obtain ⟨k,hk,rfl,rfl,hr,hkp⟩:=hrel;by_cases hlt:k<n
  ·obtain ⟨A,c,rfl,hsl,_⟩:=bq hr.2;have c0:=hr.1.cell 0;have c1:=hr.1.cell 1;have f1:=hr.1.frozen 1;simp only[List.getElem?_toArray,List.getElem?_cons_zero,List.getElem?_cons_succ] at c0 c1;obtain ⟨ad,u,rfl,hub,hu,hcu⟩:=hsl.get (k:=(pos+k)/8) (by omega);obtain ⟨b,hb⟩:∃b,bs[(pos+k)/8]? =some b:=⟨_,List.getElem?_eq_getElem (by omega)⟩
   have hu':u= .int .u8 (b.toNat:Int):=by
    unfold bO at hu;rw[List.getElem?_map,hb] at hu;simpa[bv] using hu.symm
   subst hu';have hvl:=pO (aF bs pos k);rw[fq] at hvl;have hvs:val (aF bs pos (k+1))=2*val (aF bs pos k)+(xq bs (pos+k)).toNat:=by rw[Ff,NR]
   have hbit:xq bs (pos+k)=decide (b.toNat/2 ^ (7-(pos+k)%8)%2=1):=by unfold xq;rw[List.getD_eq_getElem?_getD,hb];rfl
   rw[hbit] at hvs;generalize val (aF bs pos k)=V at*;have ad5:V<9223372036854775808:=Nat.lt_of_lt_of_le hvl (by have:=Nat.pow_le_pow_right (n:=2) (by omega) (show k≤63 by omega);simpa using this);have HVS:=ah hvs;clear hvs hbit hu hb hvl;have hq8:(pos+k)/8<bs.length:=by omega
   have hmv:=hr.move (pos+k+1);have HMV:=ah hmv;have hk2:=hkp.setCell (p:=⟨r,1,none⟩) (fun _ _=>rfl) (.int .i64 ((pos+k+1:Nat):Int));have wG:=ah hk2;have hqb:pos+k<10000000000:=by omega
   clear hmv hk2 hr hkp hsl hub;have hq1:(0:Int)≤((pos:Int)+k)/8:=by omega
   have hq2:((pos:Int)+k)/8<bs.length:=by omega
   have hq3:(((pos:Int)+k)/8).toNat=(pos+k)/8:=by omega
   have hob:=or_bit V b (7-(pos+k)%8) ad5;rw[←HVS.out] at hob;generalize hV':val (aF bs pos (k+1))=V' at*;have HV':=ah hV';clear hV';go_wp2
   go_quiet (fail)
   clear hob hq1 hq2 hq3;have f1':(wr.drewN nq).frozen? ⟨r,1,none⟩=false:=f1;have c1':(wr.drewN nq).cell? ⟨r,1,none⟩=some (.int .i64 ((pos:Int)+k)):=by rw[show ((pos:Int)+k)=((pos+k:Nat):Int) by omega];exact c1
   clear f1 c1 c0 hcu;go_wp2
   go_roundw
   case rel=>exact ⟨k+1,by omega,by go_num,by rw[HV'.out],by
    have:=HMV.out;rw[show ((pos+k+1:Nat):Int)=(pos:Int)+k+1 by omega] at this;exact this,by
    have:=wG.out;rw[show ((pos+k+1:Nat):Int)=(pos:Int)+k+1 by omega] at this;exact this.drewN _⟩
   case measure=>simp[intOf];omega
  ·obtain rfl:k=n:=by omega
   go_wp2
   go_ret2
   exact ⟨rfl,hr,hkp⟩
end Go.Proofs.YtbhiklnljiehiaaGreat
namespace Go.Proofs.YtbhiklnljiehiaaGreat
open Go.RowKit
def Oa (w:World) (bs:List UInt8) (e:Ending) (w':World):Prop:=
 ∃r v,e= .returned (.pointer (some ⟨r,0,none⟩))∧w.heap.size≤r∧jO w' r v bs 0∧Below w.heap.size w w'
theorem ru (A:Option Addr) (n c:Nat) (bs:List UInt8) (w:World) (h:Sl w w.heap.size A n c (bO bs)) (hsm:n≤1000000000):
 Calls Tryz.prog 134 #[.slice A n c] w (Oa w bs):=by
 have hl:bs.length=n:=by simpa using h.len
 have hcl:=ji A n c bs w h hsm;have HC:=ah hcl;clear hcl hsm;go_enter Tryz.func134,Tryz.ntmps134;go_wp2_with fail;refine HC.out.mono ?_;rintro e w1 ⟨v,rfl,hv,hb⟩;obtain ⟨A1,c1,rfl,hs1,_⟩:=bq hv;go_wp2;go_ret;refine ⟨w1.heap.size,_,rfl,hb.size,⟨au.new w1 262 _,?_⟩,hb.alloc hb.size _⟩;rw[hl];exact aU (hv.alloc _) (Nat.zero_le _)
abbrev raise (er:Int):Ending:= .panicked [{v:= .iface 53 (.int .i64 er),recovered:=false}]
def RE (w:World) (r:Nat) (v:Value) (bs:List UInt8) (er:Int) (pos:Nat) (e:Ending) (w':World):Prop:=
 e= .returned (.int .i64 er)∧jO w' r v bs pos∧Kept (fun k _=>k=r) w w'
set_option maxHeartbeats 400000 in
theorem yL (r:Nat) (v:Value) (bs:List UInt8) (pos:Nat) (w:World) (h:jO w r v bs pos) (hsm:bs.length≤1000000000) (hp:pos≤8*bs.length):
 Calls Tryz.prog 183 #[.pointer (some ⟨r,0,none⟩)] w (RE w r v bs (if val (aF bs pos (mY pos))=0 then 0 else 9) (if val (aF bs pos (mY pos))=0 then pos+mY pos else pos)):=by
 have hn8:mY pos<8:=by unfold mY;omega
 have hfit:pos+mY pos≤8*bs.length:=by unfold mY;omega
 have hg:=DF r v bs pos (mY pos) w h hsm (by omega) hfit;have c1:=h.1.cell 1;simp at c1;have ajZ:(8-(pos:Int)%8)%8=(mY pos:Int):=by unfold mY;omega
 have HG:=ah hg;generalize mY pos=n at*;generalize val (aF bs pos n)=V at*;have hps:pos<10000000000:=by omega
 clear hg hfit hsm;by_cases hV:V=0
 ·subst hV;simp only[if_true];go_enter Tryz.func183,Tryz.ntmps183;go_wp2_with fail;refine HG.out.mono ?_;rintro e w1 ⟨rfl,hr1,hk1⟩;go_wp2;go_ret;exact ⟨rfl,hr1,hk1⟩
 ·have hV':((V:Int) !=0)=true:=by simp;omega
  simp only[if_neg hV];go_enter Tryz.func183,Tryz.ntmps183;go_wp2_with fail;refine HG.out.mono ?_;rintro e w1 ⟨rfl,hr1,hk1⟩;have c1:=hr1.1.cell 1;have f1:=hr1.1.frozen 1;simp at c1;have e1:((pos:Int)+n)-n=pos:=by omega
  go_wp2;go_ret;exact ⟨rfl,hr1.move pos,hk1.setCell (p:=⟨r,1,none⟩) (fun _ _=>rfl) _⟩
end Go.Proofs.YtbhiklnljiehiaaGreat
namespace Go.Proofs.YtbhiklnljiehiaaGreat
open Go.RowKit
theorem Fx:(Tryz.prog.info? 204).map (fun i=>(i.zero,i.size,i.bytes))=some (some (.int .u64 0),1,8):=by kernel_rfl
theorem Ob:Tryz.prog.underlying 220=some (.slice 204):=by kernel_rfl
def getAll (bs:List UInt8) (pos:Nat) (ws:List Nat):List Nat:=(List.range ws.length).map fun i=>val (aF bs (pos+(ws.take i).sum) (ws[i]?.getD 0))
def nU (l:List Nat):List Value:=l.map fun (x:Nat)=>Value.int .u64 (x:Int)
def iR (l:List Nat):List Value:=l.map fun (x:Nat)=>Value.int .i64 (x:Int)
theorem wH (bs:List UInt8) (pos:Nat) (ws:List Nat) (k n:Nat) (h:ws[k]? =some n):getAll bs pos (ws.take (k+1))=getAll bs pos (ws.take k)++ [val (aF bs (pos+(ws.take k).sum) n)]:=by
 have hk:k<ws.length:=(List.getElem?_eq_some_iff.1 h).1;unfold getAll;have e1:(ws.take (k+1)).length=k+1:=by simp;omega
 have e2:(ws.take k).length=k:=by simp;omega
 rw[e1,e2,List.range_succ,List.map_append]
 congr 1
 ·apply List.map_congr_left;intro i hi;rw[List.mem_range] at hi;rw[List.take_take,List.take_take,List.getElem?_take,List.getElem?_take,if_pos (by omega),if_pos hi,Nat.min_eq_left (by omega),Nat.min_eq_left (by omega)]
 ·simp only[List.map_cons,List.map_nil];rw[List.take_take,List.getElem?_take,if_pos (by omega),Nat.min_eq_left (by omega),h];rfl
theorem tQ (ws:List Nat) (k n:Nat) (h:ws[k]? =some n):(ws.take (k+1)).sum=(ws.take k).sum+n:=by
 rw[List.take_add_one,h,List.sum_append];simp
theorem kz (ws:List Nat) (k:Nat):(ws.take k).sum≤ws.sum:=by
 conv=>rhs;rw[←List.take_append_drop k ws]
 rw[List.sum_append];omega
theorem Oc (be bf br bo:Nat) (u:FrameMode) (w:World) (he:au w be 53 #[.int .i64 0]):
 CallsD Tryz.prog 205 #[.pointer (some ⟨be,0,none⟩),.pointer (some ⟨bf,0,none⟩),.pointer (some ⟨br,0,none⟩),.pointer (some ⟨bo,0,none⟩)] u w fun e u' w'=>u'=u∧(e= .returned (.tuple #[])∧w=w'):=by
 have c0:=he.cell 0;simp at c0
 go_enter_d Tryz.func205,Tryz.ntmps205
 go_wp2
 go_end0
 exact ⟨rfl,rfl⟩
theorem LC (be bf br bo r pos q:Nat) (er:Int) (vo v0:Value) (u:FrameMode) (w:World) (he:au w be 53 #[.int .i64 er]) (AL:(er !=0)=true) (hf:au w bf 3 #[.int .i64 pos]) (hr:au w br 216 #[.pointer (some ⟨r,0,none⟩)])
 (ho:au w bo 220 #[vo]) (hrr:au w r 262 #[v0,.int .i64 q]) (hne:bo≠r):
 CallsD Tryz.prog 205 #[.pointer (some ⟨be,0,none⟩),.pointer (some ⟨bf,0,none⟩),.pointer (some ⟨br,0,none⟩),.pointer (some ⟨bo,0,none⟩)] u w fun e u' w'=>u'=u∧(e= .returned (.tuple #[])∧(w.setCell ⟨r,1,none⟩ (.int .i64 pos)).setCell ⟨bo,0,none⟩ (.slice none 0 0)=w'):=by
 have c0:=he.cell 0;have c1:=hf.cell 0;have c2:=hr.cell 0;have c3:=ho.cell 0;have f3:=ho.frozen 0;have c4:=hrr.cell 1;have f4:=hrr.frozen 1;simp at c0 c1 c2 c3 c4;have c3':(w.setCell ⟨r,1,none⟩ (.int .i64 pos)).cell? ⟨bo,0,none⟩=some vo:=by
  have:=(ho.far (p:=⟨r,1,none⟩) hne (.int .i64 pos)).cell 0;simpa using this
 have f3':(w.setCell ⟨r,1,none⟩ (.int .i64 pos)).frozen? ⟨bo,0,none⟩=false:=(ho.far (p:=⟨r,1,none⟩) hne (.int .i64 pos)).frozen 0
 go_enter_d Tryz.func205,Tryz.ntmps205
 go_wp2
 go_end0
 exact ⟨rfl,rfl⟩
structure vw (w:World) (r:Nat) (v:Value) (bs:List UInt8) (pos:Nat) (ws:List Nat) (k:Nat) (wr:World) (vo:Value):Prop where
 br:au wr w.heap.size 216 #[.pointer (some ⟨r,0,none⟩)]
 bo:au wr (w.heap.size+1) 220 #[vo]
 be:au wr (w.heap.size+1+1) 53 #[.int .i64 0]
 bf:au wr (w.heap.size+1+1+1) 3 #[.int .i64 pos]
 rd:jO wr r v bs (pos+(ws.take k).sum)
 ow:wr.ownsRow w.heap.size 204 1 vo k (nU (getAll bs pos (ws.take k)))
 kp:Kept (fun j _=>j=r∨w.heap.size≤j) w wr
theorem vw.step {w:World} {r:Nat} {v:Value} {bs:List UInt8} {pos:Nat} {ws:List Nat} {k:Nat} {wr w1:World} {vo:Value} (st:vw w r v bs pos ws k wr vo) (hr:r<w.heap.size) (hk:Kept (fun j _=>j=r) wr w1):
 au w1 w.heap.size 216 #[.pointer (some ⟨r,0,none⟩)]∧au w1 (w.heap.size+1) 220 #[vo]∧au w1 (w.heap.size+1+1) 53 #[.int .i64 0]∧au w1 (w.heap.size+1+1+1) 3 #[.int .i64 pos]∧
  w1.ownsRow w.heap.size 204 1 vo k (nU (getAll bs pos (ws.take k)))∧Kept (fun j _=>j=r∨w.heap.size≤j) w w1:=
 ⟨st.br.kept hk (by omega),st.bo.kept hk (by omega),st.be.kept hk (by omega),st.bf.kept hk (by omega),jA st.ow hk (fun j o _ hj e=>by have:=(st.ow.lt j hj).1;omega),st.kp.trans (hk.mono fun _ _ e=> .inl e)⟩
def Ky (w:World) (r:Nat) (v:Value) (bs:List UInt8) (pos:Nat) (ws:List Nat) (e:Ending) (w':World):Prop:=
 ∃vo,e= .returned (.tuple #[vo,.int .i64 0])∧w'.ownsRow w.heap.size 204 1 vo ws.length (nU (getAll bs pos ws))∧jO w' r v bs (pos+ws.sum)∧Kept (fun k _=>k=r∨w.heap.size≤k) w w'
set_option maxRecDepth 100000 in
set_option maxHeartbeats 2000000 in
theorem RF (r b:Nat) (v:Value) (bs:List UInt8) (pos:Nat) (ws:List Nat) (w:World) (h:jO w r v bs pos) (hsm:bs.length≤1000000000) (hws:∀n∈ws,n≤64) (hwl:ws.length≤1000)
 (hb:au w b 3 (iR ws).toArray) (hfit:pos+ws.sum≤8*bs.length):
 Calls Tryz.prog 174 #[.pointer (some ⟨r,0,none⟩),.slice (some ⟨b,0,none⟩) ws.length ws.length,.func (.func 175) #[.pointer (some ⟨r,0,none⟩)] #[]] w (Ky w r v bs pos ws):=by
 obtain ⟨i0,hi,hz0,hz1,hz2⟩:=info_parts Fx;have c1:=h.1.cell 1;simp at c1;have hrl:=h.1.lt;have hbl:=hb.lt;have hrb:b≠r:=by
  rintro rfl;have h1:=h.1;unfold au at h1 hb;rw[h1] at hb;injection hb with hb
  injection hb with _ h2
  exact absurd h2 (by decide)
 have HWS:=ah hws;have pG:=ah hsm;have HF:=ah hfit;clear hws hsm hfit;obtain ⟨N,hN⟩:∃N,ws.length=N:=⟨_,rfl⟩
 rw[hN] at hwl ⊢;have HN:=ah hN;clear hN;have c1':=(((h.1.alloc (.cells #[.pointer (some ⟨r,0,none⟩)] 216)).alloc (.cells #[.slice none 0 0] 220)).alloc (.cells #[.int .i64 0] 53)).cell 1;simp only[List.getElem?_toArray,List.getElem?_cons_zero,List.getElem?_cons_succ] at c1';have hst:vw w r v bs pos ws 0 ((((w.alloc (.cells #[.pointer (some ⟨r,0,none⟩)] 216)).alloc (.cells #[.slice none 0 0] 220)).alloc (.cells #[.int .i64 0] 53)).alloc (.cells #[.int .i64 pos] 3)) (.slice none 0 0):=by
  refine ⟨(((au.new w _ _).alloc _).alloc _).alloc _,?_,?_,?_,?_,World.ownsRow_nil _ _ _ _,((((Kept.refl _ w).alloc _).alloc _).alloc _).alloc _⟩
  ·simpa using ((au.new (w.alloc (.cells #[.pointer (some ⟨r,0,none⟩)] 216)) 220 #[.slice none 0 0]).alloc (.cells #[.int .i64 0] 53)).alloc (.cells #[.int .i64 pos] 3)
  ·simpa using (au.new ((w.alloc (.cells #[.pointer (some ⟨r,0,none⟩)] 216)).alloc (.cells #[.slice none 0 0] 220)) 53 #[.int .i64 0]).alloc (.cells #[.int .i64 pos] 3)
  ·simpa using au.new (((w.alloc (.cells #[.pointer (some ⟨r,0,none⟩)] 216)).alloc (.cells #[.slice none 0 0] 220)).alloc (.cells #[.int .i64 0] 53)) 3 #[.int .i64 pos]
  ·exact ⟨(((h.1.alloc _).alloc _).alloc _).alloc _,(((h.2.alloc _).alloc _).alloc _).alloc _⟩
 have HST:=ah hst;clear hst
 go_enter_defers Tryz.func174,Tryz.ntmps174
 go_wp2
 go_loopw [22] (fun i wr=>∃(k:Nat) (vo:Value),k≤N∧i= .int .i64 k∧vw w r v bs pos ws k wr vo) (fun i _=>N-(intOf i).toNat)
 case atStart=>exact ⟨0,_,Nat.zero_le _,rfl,HST.out⟩
 case round=>
  obtain ⟨k,vo,hk,rfl,st⟩:=hrel;by_cases hlt:k<N
  ·obtain ⟨n,hn⟩:∃n,ws[k]? =some n:=⟨_,List.getElem?_eq_getElem (by rw[HN.out];exact hlt)⟩
   have RG:=HWS.out n (List.mem_of_getElem? hn);have hsn:=tQ ws k n hn;have hga:=wH bs pos ws k n hn;have hle:=kz ws (k+1);have hbk:au wr b 3 (iR ws).toArray:=hb.kept st.kp (by rintro (e|e);exact hrb e;omega);have hcb:=hbk.cell k;have NZ:wr.cell? ⟨b,k,none⟩=some (.int .i64 n):=by rw[hcb,List.getElem?_toArray];unfold iR;rw[List.getElem?_map,hn];rfl
   have hget:=DF r v bs (pos+(ws.take k).sum) n wr st.rd pG.out RG (by have:=HF.out;omega);have HG:=ah hget;have QS:=ah hsn;have VQ:=ah hga;clear hget hcb hsn hga hle hbk hn;go_wp2_with fail;refine HG.out.mono ?_;rintro e1 w1 ⟨rfl,hr1,hk1⟩;have st1:=st.step hrl hk1;generalize val (aF bs (pos+(ws.take k).sum) n)=x at*;clear HG st NZ;obtain ⟨Iy,AO,tq,QU,xw,RH⟩:=st1;have co:=AO.cell 0;simp at co;go_wp2_with (at_builtin;refine wpList_append_own _ rfl _ _ 220 rfl w.heap.size 204 i0 (.int .u64 0) 1 8 Ob hi hz0 hz1 hz2 rfl (by decide) _ _ _ rfl (xw.alloc _) ⟨w1.heap.size,0,none⟩ 1 1 [.int .u64 x] rfl rfl ?c1 ?c2 ?c3 ?c4 ?c5 ?_)
   case c1=>exact cell_one_new _ _ _
   case c2=>simp[Value.oneCell']
   case c3=>unfold maxLen;omega
   case c4=>omega
   case c5=>have:=RH.size;simp;omega
   intro v' w2 hown' hgrow _;have hin:∀j,vo.ownBlock=some j→w.heap.size≤j:=fun j hj=>(xw.lt j hj).1
   have yM:=(AO.alloc (.cells #[.int .u64 x] 204)).grown hgrow (fun e=>aJ xw AO (by decide) e.symm);have VR:=(Iy.alloc (.cells #[.int .u64 x] 204)).grown hgrow (fun e=>aJ xw Iy (by decide) e.symm);have VS:=(tq.alloc (.cells #[.int .u64 x] 204)).grown hgrow (fun e=>aJ xw tq (by decide) e.symm);have VT:=(QU.alloc (.cells #[.int .u64 x] 204)).grown hgrow (fun e=>aJ xw QU (by decide) e.symm);have hk2:Kept (fun j _=>j=r∨w.heap.size≤j) w w2:=(RH.alloc (.cells #[.int .u64 x] 204)).grown hgrow (fun j hj o _=> .inr (hin j hj));have hr2:jO w2 r v bs (pos+(ws.take k).sum+n):=by
    refine ⟨(hr1.1.alloc _).grown hgrow (fun e=>aJ xw hr1.1 (by decide) e.symm),(hr1.2.alloc _).kept hgrow ?_⟩;rcases hq:v.ownBlock with _|j
    ·exact .inl rfl
    ·refine .inr (fun e=> ?_);obtain ⟨o1,ho1,⟨cs1,Zg,rfl⟩,_⟩:=bU hr1.2 hq;obtain ⟨o2,ho2,⟨cs2,Yu,rfl⟩,_⟩:=bU xw e.symm;rw[ho1] at ho2;cases ho2
   have co2:=yM.cell 0;have fo2:=yM.frozen 0;simp at co2;obtain ⟨g',cap',rfl,hgl,kL⟩:=hown'.form (by omega);go_wp2
   go_roundw
   case rel=>
    refine ⟨k+1,.slice (some ⟨g',0,none⟩) (k+1) cap',by omega,by go_num,⟨VR.far (by simp) _,by simpa using yM.av 0 (.slice (some ⟨g',0,none⟩) (k+1) cap'),VS.far (by simp<;>omega) _,VT.far (by simp<;>omega) _,?_,?_,hk2.setCell (p:=⟨w.heap.size+1,0,none⟩) (fun _ _=> .inr (by simp)) _⟩⟩
    ·rw[QS.out,←Nat.add_assoc];exact ⟨hr2.1.far (by simp<;>omega) _,hr2.2.kept (aO _ _ 0 _) (.inr (aJ hr2.2 yM (by decide)))⟩
    ·rw[VQ.out];have:=hown'.kept (aO w2 (w.heap.size+1) 0 (.slice (some ⟨g',0,none⟩) (k+1) cap')) (.inr (aJ hown' yM (by decide)));simpa[nU] using this
   case measure=>simp[intOf];omega
  ·have e:ws.take k=ws:=List.take_of_length_le (by rw[HN.out];omega);obtain ⟨Iy,AO,tq,QU,Zh,xw,RH⟩:=st;rw[e] at Zh xw;have hkN:k=N:=by omega
   rw[hkN,←HN.out] at xw;clear e hkN;obtain ⟨A1,xA,rfl,hs1,_⟩:=bq xw;have co:=AO.cell 0;have fo:=AO.frozen 0;have ce:=tq.cell 0;have fe:=tq.frozen 0;simp at co ce;have Od:au ((wr.setCell ⟨w.heap.size+1,0,none⟩ (.slice A1 ws.length xA)).setCell ⟨w.heap.size+1+1,0,none⟩ (.int .i64 0)) (w.heap.size+1+1) 53 #[.int .i64 0]:=by
    simpa using (tq.far (p:=⟨w.heap.size+1,0,none⟩) (by simp<;>omega) (.slice A1 ws.length xA)).av 0 (.int .i64 0)
   have Oe:au ((wr.setCell ⟨w.heap.size+1,0,none⟩ (.slice A1 ws.length xA)).setCell ⟨w.heap.size+1+1,0,none⟩ (.int .i64 0)) (w.heap.size+1) 220 #[.slice A1 ws.length xA]:=by
    simpa using (AO.av 0 (.slice A1 ws.length xA)).far (p:=⟨w.heap.size+1+1,0,none⟩) (by simp<;>omega) (.int .i64 0)
   have hkp3:=(RH.setCell (p:=⟨w.heap.size+1,0,none⟩) (fun _ _=> .inr (by simp)) (.slice A1 ws.length xA)).setCell (p:=⟨w.heap.size+1+1,0,none⟩) (fun _ _=> .inr (by simp<;>omega)) (.int .i64 0);have ad8:=(xw.kept (aO wr (w.heap.size+1) 0 (.slice A1 ws.length xA)) (.inr (aJ xw AO (by decide)))).kept (aO _ (w.heap.size+1+1) 0 (.int .i64 0)) (.inr (aJ xw tq (by decide)));have lU:jO ((wr.setCell ⟨w.heap.size+1,0,none⟩ (.slice A1 ws.length xA)).setCell ⟨w.heap.size+1+1,0,none⟩ (.int .i64 0)) r v bs (pos+ws.sum):=
    ⟨(Zh.1.far (p:=⟨w.heap.size+1,0,none⟩) (by simp<;>omega) _).far (p:=⟨w.heap.size+1+1,0,none⟩) (by simp<;>omega) _,
     (Zh.2.kept (aO wr (w.heap.size+1) 0 (.slice A1 ws.length xA)) (.inr (aJ Zh.2 AO (by decide)))).kept (aO _ (w.heap.size+1+1) 0 (.int .i64 0)) (.inr (aJ Zh.2 tq (by decide)))⟩
   go_wp2;refine leaves_cons (f:=205) (args:= #[.pointer (some ⟨w.heap.size+1+1,0,none⟩),.pointer (some ⟨w.heap.size+1+1+1,0,none⟩),.pointer (some ⟨w.heap.size,0,none⟩),.pointer (some ⟨w.heap.size+1,0,none⟩)]) (by simp) (by simp[go_sem]) ?_;refine (Oc _ _ _ _ .returning _ Od).mono ?_;rintro e u' w'' ⟨rfl,rfl,rfl⟩;have Zi:=Od.cell 0;have Zj:=Oe.cell 0;simp at Zi Zj;refine ⟨.tuple #[.slice A1 ws.length xA,.int .i64 0],by simp[results,Tryz.results174,go_sem,Zi,Zj],_,rfl,ad8,lU,hkp3⟩
def Cm (w:World) (r:Nat) (v:Value) (bs:List UInt8) (pos:Nat) (e:Ending) (w':World):Prop:=
 e= .returned (.tuple #[.slice none 0 0,.int .i64 5])∧jO w' r v bs pos∧Kept (fun k _=>k=r∨w.heap.size≤k) w w'
set_option maxRecDepth 100000 in
set_option maxHeartbeats 2000000 in
theorem IP (r b:Nat) (v:Value) (bs:List UInt8) (pos:Nat) (ws:List Nat) (w:World) (h:jO w r v bs pos) (hsm:bs.length≤1000000000) (hws:∀n∈ws,n≤64) (hwl:ws.length≤1000)
 (hb:au w b 3 (iR ws).toArray) (hp:pos≤8*bs.length) (hfit:8*bs.length<pos+ws.sum):
 Calls Tryz.prog 174 #[.pointer (some ⟨r,0,none⟩),.slice (some ⟨b,0,none⟩) ws.length ws.length,.func (.func 175) #[.pointer (some ⟨r,0,none⟩)] #[]] w (Cm w r v bs pos):=by
 obtain ⟨i0,hi,hz0,hz1,hz2⟩:=info_parts Fx;have c1:=h.1.cell 1;simp at c1;have hrl:=h.1.lt;have hbl:=hb.lt;have hrb:b≠r:=by
  rintro rfl;have h1:=h.1;unfold au at h1 hb;rw[h1] at hb;injection hb with hb
  injection hb with _ h2
  exact absurd h2 (by decide)
 have HWS:=ah hws;have pG:=ah hsm;have HF:=ah hfit;have HP:=ah hp;clear hws hsm hfit hp;obtain ⟨N,hN⟩:∃N,ws.length=N:=⟨_,rfl⟩
 rw[hN] at hwl ⊢;have HN:=ah hN;clear hN;have c1':=(((h.1.alloc (.cells #[.pointer (some ⟨r,0,none⟩)] 216)).alloc (.cells #[.slice none 0 0] 220)).alloc (.cells #[.int .i64 0] 53)).cell 1;simp only[List.getElem?_toArray,List.getElem?_cons_zero,List.getElem?_cons_succ] at c1';have hst:vw w r v bs pos ws 0 ((((w.alloc (.cells #[.pointer (some ⟨r,0,none⟩)] 216)).alloc (.cells #[.slice none 0 0] 220)).alloc (.cells #[.int .i64 0] 53)).alloc (.cells #[.int .i64 pos] 3)) (.slice none 0 0):=by
  refine ⟨(((au.new w _ _).alloc _).alloc _).alloc _,?_,?_,?_,?_,World.ownsRow_nil _ _ _ _,((((Kept.refl _ w).alloc _).alloc _).alloc _).alloc _⟩
  ·simpa using ((au.new (w.alloc (.cells #[.pointer (some ⟨r,0,none⟩)] 216)) 220 #[.slice none 0 0]).alloc (.cells #[.int .i64 0] 53)).alloc (.cells #[.int .i64 pos] 3)
  ·simpa using (au.new ((w.alloc (.cells #[.pointer (some ⟨r,0,none⟩)] 216)).alloc (.cells #[.slice none 0 0] 220)) 53 #[.int .i64 0]).alloc (.cells #[.int .i64 pos] 3)
  ·simpa using au.new (((w.alloc (.cells #[.pointer (some ⟨r,0,none⟩)] 216)).alloc (.cells #[.slice none 0 0] 220)).alloc (.cells #[.int .i64 0] 53)) 3 #[.int .i64 pos]
  ·exact ⟨(((h.1.alloc _).alloc _).alloc _).alloc _,(((h.2.alloc _).alloc _).alloc _).alloc _⟩
 have HST:=ah hst;clear hst
 go_enter_defers Tryz.func174,Tryz.ntmps174
 go_wp2
 go_loopw [22] (fun i wr=>∃(k:Nat) (vo:Value),k≤N∧i= .int .i64 k∧vw w r v bs pos ws k wr vo∧pos+(ws.take k).sum≤8*bs.length) (fun i _=>N-(intOf i).toNat)
 case atStart=>exact ⟨0,_,Nat.zero_le _,rfl,HST.out,HP.out⟩
 case round=>
  obtain ⟨k,vo,hk,rfl,st,hpk⟩:=hrel;have HPK:=ah hpk;clear hpk;by_cases hlt:k<N
  ·obtain ⟨n,hn⟩:∃n,ws[k]? =some n:=⟨_,List.getElem?_eq_getElem (by rw[HN.out];exact hlt)⟩
   have RG:=HWS.out n (List.mem_of_getElem? hn);have hsn:=tQ ws k n hn;have hga:=wH bs pos ws k n hn;have hle:=kz ws (k+1);have hbk:au wr b 3 (iR ws).toArray:=hb.kept st.kp (by rintro (e|e);exact hrb e;omega);have hcb:=hbk.cell k;have NZ:wr.cell? ⟨b,k,none⟩=some (.int .i64 n):=by rw[hcb,List.getElem?_toArray];unfold iR;rw[List.getElem?_map,hn];rfl
   by_cases hfits:pos+(ws.take k).sum+n≤8*bs.length
   ·have hget:=DF r v bs (pos+(ws.take k).sum) n wr st.rd pG.out RG hfits;have HG:=ah hget;have QS:=ah hsn;have VQ:=ah hga;have HFT:=ah hfits;clear hget hcb hsn hga hle hbk hn hfits;go_wp2_with fail;refine HG.out.mono ?_;rintro e1 w1 ⟨rfl,hr1,hk1⟩;have st1:=st.step hrl hk1;generalize val (aF bs (pos+(ws.take k).sum) n)=x at*;clear HG st NZ;obtain ⟨Iy,AO,tq,QU,xw,RH⟩:=st1;have co:=AO.cell 0;simp at co;go_wp2_with (at_builtin;refine wpList_append_own _ rfl _ _ 220 rfl w.heap.size 204 i0 (.int .u64 0) 1 8 Ob hi hz0 hz1 hz2 rfl (by decide) _ _ _ rfl (xw.alloc _) ⟨w1.heap.size,0,none⟩ 1 1 [.int .u64 x] rfl rfl ?c1 ?c2 ?c3 ?c4 ?c5 ?_)
    case c1=>exact cell_one_new _ _ _
    case c2=>simp[Value.oneCell']
    case c3=>unfold maxLen;omega
    case c4=>omega
    case c5=>have:=RH.size;simp;omega
    intro v' w2 hown' hgrow _;have hin:∀j,vo.ownBlock=some j→w.heap.size≤j:=fun j hj=>(xw.lt j hj).1
    have yM:=(AO.alloc (.cells #[.int .u64 x] 204)).grown hgrow (fun e=>aJ xw AO (by decide) e.symm);have VR:=(Iy.alloc (.cells #[.int .u64 x] 204)).grown hgrow (fun e=>aJ xw Iy (by decide) e.symm);have VS:=(tq.alloc (.cells #[.int .u64 x] 204)).grown hgrow (fun e=>aJ xw tq (by decide) e.symm);have VT:=(QU.alloc (.cells #[.int .u64 x] 204)).grown hgrow (fun e=>aJ xw QU (by decide) e.symm);have hk2:Kept (fun j _=>j=r∨w.heap.size≤j) w w2:=(RH.alloc (.cells #[.int .u64 x] 204)).grown hgrow (fun j hj o _=> .inr (hin j hj));have hr2:jO w2 r v bs (pos+(ws.take k).sum+n):=by
     refine ⟨(hr1.1.alloc _).grown hgrow (fun e=>aJ xw hr1.1 (by decide) e.symm),(hr1.2.alloc _).kept hgrow ?_⟩;rcases hq:v.ownBlock with _|j
     ·exact .inl rfl
     ·refine .inr (fun e=> ?_);obtain ⟨o1,ho1,⟨cs1,Zg,rfl⟩,_⟩:=bU hr1.2 hq;obtain ⟨o2,ho2,⟨cs2,Yu,rfl⟩,_⟩:=bU xw e.symm;rw[ho1] at ho2;cases ho2
    have co2:=yM.cell 0;have fo2:=yM.frozen 0;simp at co2;obtain ⟨g',cap',rfl,hgl,kL⟩:=hown'.form (by omega);go_wp2
    go_roundw
    case rel=>
     refine ⟨k+1,.slice (some ⟨g',0,none⟩) (k+1) cap',by omega,by go_num,⟨VR.far (by simp) _,by simpa using yM.av 0 (.slice (some ⟨g',0,none⟩) (k+1) cap'),VS.far (by simp<;>omega) _,VT.far (by simp<;>omega) _,?_,?_,hk2.setCell (p:=⟨w.heap.size+1,0,none⟩) (fun _ _=> .inr (by simp)) _⟩,by rw[QS.out,←Nat.add_assoc];exact HFT.out⟩
     ·rw[QS.out,←Nat.add_assoc];exact ⟨hr2.1.far (by simp<;>omega) _,hr2.2.kept (aO _ _ 0 _) (.inr (aJ hr2.2 yM (by decide)))⟩
     ·rw[VQ.out];have:=hown'.kept (aO w2 (w.heap.size+1) 0 (.slice (some ⟨g',0,none⟩) (k+1) cap')) (.inr (aJ hown' yM (by decide)));simpa[nU] using this
    case measure=>simp[intOf];omega
   ·have hget:=Ck r v bs (pos+(ws.take k).sum) n wr st.rd HPK.out pG.out RG (by have:=HPK.out;omega);have HG:=ah hget;clear hget hcb hsn hga hle hbk hn hfits;go_wp2_with fail;refine HG.out.mono ?_;rintro e1 w1 ⟨rfl,hr1,hk1⟩;obtain ⟨Iy,AO,tq,QU,xw,RH⟩:=st.step hrl hk1;clear HG st NZ;have co:=AO.cell 0;have fo:=AO.frozen 0;have ce:=tq.cell 0;have fe:=tq.frozen 0;simp at co ce;have Od:au ((w1.setCell ⟨w.heap.size+1,0,none⟩ (.slice none 0 0)).setCell ⟨w.heap.size+1+1,0,none⟩ (.int .i64 5)) (w.heap.size+1+1) 53 #[.int .i64 5]:=by
     simpa using (tq.far (p:=⟨w.heap.size+1,0,none⟩) (by simp<;>omega) (.slice none 0 0)).av 0 (.int .i64 5)
    have Oe:au ((w1.setCell ⟨w.heap.size+1,0,none⟩ (.slice none 0 0)).setCell ⟨w.heap.size+1+1,0,none⟩ (.int .i64 5)) (w.heap.size+1) 220 #[.slice none 0 0]:=by
     simpa using (AO.av 0 (.slice none 0 0)).far (p:=⟨w.heap.size+1+1,0,none⟩) (by simp<;>omega) (.int .i64 5)
    have ad9:=(Iy.far (p:=⟨w.heap.size+1,0,none⟩) (by simp<;>omega) (.slice none 0 0)).far (p:=⟨w.heap.size+1+1,0,none⟩) (by simp<;>omega) (.int .i64 5);have aea:=(QU.far (p:=⟨w.heap.size+1,0,none⟩) (by simp<;>omega) (.slice none 0 0)).far (p:=⟨w.heap.size+1+1,0,none⟩) (by simp<;>omega) (.int .i64 5);have hkp3:=(RH.setCell (p:=⟨w.heap.size+1,0,none⟩) (fun _ _=> .inr (by simp)) (.slice none 0 0)).setCell (p:=⟨w.heap.size+1+1,0,none⟩) (fun _ _=> .inr (by simp<;>omega)) (.int .i64 5);have lU:jO ((w1.setCell ⟨w.heap.size+1,0,none⟩ (.slice none 0 0)).setCell ⟨w.heap.size+1+1,0,none⟩ (.int .i64 5)) r v bs (pos+(ws.take k).sum):=
     ⟨(hr1.1.far (p:=⟨w.heap.size+1,0,none⟩) (by simp<;>omega) _).far (p:=⟨w.heap.size+1+1,0,none⟩) (by simp<;>omega) _,
      (hr1.2.kept (aO w1 (w.heap.size+1) 0 (.slice none 0 0)) (.inr (aJ hr1.2 AO (by decide)))).kept (aO _ (w.heap.size+1+1) 0 (.int .i64 5)) (.inr (aJ hr1.2 tq (by decide)))⟩
    go_wp2;refine leaves_cons (f:=205) (args:= #[.pointer (some ⟨w.heap.size+1+1,0,none⟩),.pointer (some ⟨w.heap.size+1+1+1,0,none⟩),.pointer (some ⟨w.heap.size,0,none⟩),.pointer (some ⟨w.heap.size+1,0,none⟩)]) (by simp) (by simp[go_sem]) ?_;refine (LC _ _ _ _ r pos _ 5 _ _ .returning _ Od rfl aea ad9 Oe lU.1 (by omega)).mono ?_;rintro e u' w'' ⟨rfl,rfl,rfl⟩;have aeb:=(Od.far (p:=⟨r,1,none⟩) (by simp<;>omega) (.int .i64 pos)).far (p:=⟨w.heap.size+1,0,none⟩) (by simp<;>omega) (.slice none 0 0);have aec:=(Oe.far (p:=⟨r,1,none⟩) (by simp<;>omega) (.int .i64 pos)).av 0 (.slice none 0 0);have Zi:=aeb.cell 0;have Zj:=aec.cell 0;simp at Zi Zj;have yN:=lU.move pos;refine ⟨.tuple #[.slice none 0 0,.int .i64 5],by simp[results,Tryz.results174,go_sem,Zi,Zj],rfl,⟨yN.1.far (p:=⟨w.heap.size+1,0,none⟩) (by simp<;>omega) _,yN.2.kept (aO _ (w.heap.size+1) 0 (.slice none 0 0)) (.inr (aJ yN.2 (Oe.far (p:=⟨r,1,none⟩) (by simp<;>omega) (.int .i64 pos)) (by decide)))⟩,(hkp3.setCell (p:=⟨r,1,none⟩) (fun _ _=> .inl rfl) _).setCell (p:=⟨w.heap.size+1,0,none⟩) (fun _ _=> .inr (by simp)) _⟩
  ·have e:ws.take k=ws:=List.take_of_length_le (by rw[HN.out];omega);have:=HPK.out;have:=HF.out;rw[e] at*;omega
theorem ni (r b:Nat) (v:Value) (bs:List UInt8) (pos:Nat) (ws:List Nat) (w:World) (h:jO w r v bs pos) (hsm:bs.length≤1000000000) (hws:∀n∈ws,n≤64) (hwl:ws.length≤1000)
 (hb:au w b 3 (iR ws).toArray) (hfit:pos+ws.sum≤8*bs.length):
 Calls Tryz.prog 136 #[.pointer (some ⟨r,0,none⟩),.slice (some ⟨b,0,none⟩) ws.length ws.length] w (Ky w r v bs pos ws):=by
 have hE:=RF r b v bs pos ws w h hsm hws hwl hb hfit;have HE:=ah hE;clear hE hsm hws;go_enter Tryz.func136,Tryz.ntmps136;go_wp2_with fail;refine HE.out.mono ?_;rintro e w' ⟨vo,rfl,h1,h2,h3⟩;go_wp2
 go_ret2
 exact ⟨vo,rfl,h1,h2,h3⟩
theorem jB (r b:Nat) (v:Value) (bs:List UInt8) (pos:Nat) (ws:List Nat) (w:World) (h:jO w r v bs pos) (hsm:bs.length≤1000000000) (hws:∀n∈ws,n≤64) (hwl:ws.length≤1000)
 (hb:au w b 3 (iR ws).toArray) (hp:pos≤8*bs.length) (hfit:8*bs.length<pos+ws.sum):
 Calls Tryz.prog 136 #[.pointer (some ⟨r,0,none⟩),.slice (some ⟨b,0,none⟩) ws.length ws.length] w (Cm w r v bs pos):=by
 have hE:=IP r b v bs pos ws w h hsm hws hwl hb hp hfit;have HE:=ah hE;clear hE hsm hws;go_enter Tryz.func136,Tryz.ntmps136;go_wp2_with fail;refine HE.out.mono ?_;rintro e w' ⟨rfl,h2,h3⟩;go_wp2
 go_ret2
 exact ⟨rfl,h2,h3⟩
end Go.Proofs.YtbhiklnljiehiaaGreat
