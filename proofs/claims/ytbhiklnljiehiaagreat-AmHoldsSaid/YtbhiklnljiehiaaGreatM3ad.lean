/- The bit reader: NewReader, Left, Get, At. -/
import Derived.Test.YtbhiklnljiehiaaGreatM3ac
import Derived.Defers
import Derived.Recover
set_option maxHeartbeats 2000000
set_option maxRecDepth 100000
namespace Go.Proofs.YtbhiklnljiehiaaGreat
open RowKit Tryz
def ni (w:World) (r:Nat) (v:Value) (bs:List UInt8) (pos:Nat):Prop:=
 av w r 262 #[v,pos]/\w.ownsRow 0 5 1 v bs.length (dz bs)
theorem ni.drewN {w:World} {r:Nat} {v:Value} {bs:List UInt8} {pos:Nat} (h:ni w r v bs pos) (k:Nat):ni (w.drewN k) r v bs pos:=h
theorem mI {w w':World} {M:Nat->Obj->Prop} {base:Nat} {e:TypeId} {size n:Nat} {v:Value} {xs:List Value} (h:w.ownsRow base e size v n xs) (hk:Kept M w w') (hM:∀k o,Qw o e->v.ownBlock=some k->¬M k o):w'.ownsRow base e size v n xs:=by
 rcases h.2 with ⟨rfl,h0⟩|⟨g',cap,cur,rfl,h1,h2,h3⟩
 ·exact ⟨h.1,.inl ⟨rfl,h0⟩⟩
 ·exact ⟨h.1,.inr ⟨g',cap,cur,rfl,h1,hk.same _ _ h2 (hM _ _ ⟨_,_,rfl⟩ rfl),h3⟩⟩
theorem ni.move {w:World} {r:Nat} {v:Value} {bs:List UInt8} {pos:Nat} (h:ni w r v bs pos) (q:Nat):ni (w.setCell ⟨r,1,none⟩ q) r v bs q:=
 ⟨by simpa using h.1.ay 1 q,h.2.kept (aR w r 1 _) (.inr (aK h.2 h.1 (by decide)))⟩
theorem EP (r:Nat) (v:Value) (bs:List UInt8) (pos:Nat) (w:World) (h:ni w r v bs pos) (hp:pos<=8*bs.length) (hsm:bs.length<=1000000000):
 Calls prog 182 #[.pointer (some r)] w fun e w'=>e= .returned (.int .i64 ((8*bs.length-pos:Nat):Int))/\∃k,w.drewN k=w':=by
 obtain ⟨A,c,rfl,_⟩:=aY h.2;have c0:=h.1.cell 0;have c1:=h.1.cell 1;simp at c0 c1;have e1:(8*(bs.length:Int)-pos)=((8*bs.length-pos:Nat):Int):=by omega
 go_enter func182,ntmps182;go_wp2
 go_quiet (fail)
 go_wp2;go_ret;refine ⟨qY ?_,_,rfl⟩
 go_num
theorem abp (r:Nat) (v:Value) (bs:List UInt8) (pos:Nat) (w:World) (h:ni w r v bs pos):
 Calls prog 189 #[.pointer (some r)] w fun e w'=>e= .returned pos/\w=w':=by
 have c1:=h.1.cell 1;simp at c1;go_enter func189,ntmps189;go_wp2;go_ret;exact ⟨rfl,rfl⟩
theorem or_bit (V:Nat) (b:UInt8) (j:Nat) (hV:V<9223372036854775808):
 bits BinOp.or IntKind.u64 ((V:Int)*2) (IntKind.u64.wrap (bits BinOp.and IntKind.u8 ((b.toNat:Int)/2 ^ j) 1))=((2*V+(decide (b.toNat/2 ^ j%2=1)).toNat:Nat):Int):=by
 have hb:b.toNat<256:=b.toNat_lt;have e:(b.toNat:Int)/2 ^ j=((b.toNat/2 ^ j:Nat):Int):=by push_cast;rfl
 have hle:b.toNat/2 ^ j<=b.toNat:=Nat.div_le_self _ _;have h1:=u8_and_nat (b.toNat/2 ^ j) 1 (by omega) (by omega);have h1':bits BinOp.and IntKind.u8 ((b.toNat/2 ^ j:Nat):Int) 1=((b.toNat/2 ^ j&&& 1:Nat):Int):=h1;rw[e,h1',Nat.and_one_is_mod,Cz];have hm:=Nat.mod_two_eq_zero_or_one (b.toNat/2 ^ j);generalize b.toNat/2 ^ j%2=x at*;have e2:((x:Nat):Int)%18446744073709551616=((x*2 ^ 0:Nat):Int):=by omega
 have e3:(V:Int)*2=((2*V:Nat):Int):=by omega
 rw[e2,e3,u64_or_nat (2*V) (x*2 ^ 0) (by omega) (by omega),TU (2*V) x 0 (by omega) (by omega)];rcases hm with rfl|rfl<;>simp
def ZV (w:World) (r:Nat) (v:Value) (bs:List UInt8) (x:Nat) (er:Int) (pos:Nat) (e:Ending) (w':World):Prop:=
 e= .returned (.tuple #[.int .u64 x,er])/\ni w' r v bs pos/\Kept (fun k _=>k=r) w w'
theorem IZ (r:Nat) (v:Value) (bs:List UInt8) (pos n:Nat) (w:World) (h:ni w r v bs pos) (hp:pos<=8*bs.length) (hsm:bs.length<=1000000000) (hn:n<=64) (hs:8*bs.length-pos<n):
 Calls prog 175 #[.pointer (some r),n] w (ZV w r v bs 0 5 pos):=by
 have hl:=EP r v bs pos w h hp hsm;have HLt:=ah hl;generalize 8*bs.length-pos=m at*;clear hl hp hsm;go_enter func175,ntmps175;go_wp2_with (go_at_call 182;refine HLt.out.mono ?_;rintro e w' ⟨rfl,q,rfl⟩)
 go_ret2
 exact ⟨rfl,h.drewN _,(Kept.refl _ w).drewN _⟩
theorem Kg (r:Nat) (v:Value) (bs:List UInt8) (pos n:Nat) (w:World) (h:ni w r v bs pos) (hsm:bs.length<=1000000000) (hn:n<=64) (hs:pos+n<=8*bs.length):
 Calls prog 175 #[.pointer (some r),n] w (ZV w r v bs (val (ax bs pos n)) 0 (pos+n)):=by
 have hl:=EP r v bs pos w h (by omega) hsm;have HLt:=ah hl;obtain ⟨m,hm⟩:∃m,m=8*bs.length-pos:=⟨_,rfl⟩
 rw[<-hm] at HLt;have hnm:n<=m:=by omega
 clear hl hm;go_enter func175,ntmps175;go_wp2_with (go_at_call 182;refine HLt.out.mono ?_;rintro e w' ⟨rfl,q,rfl⟩)
 replace h:=h.drewN q
 have hk0:=(Kept.refl (fun k _=>k=r) w).drewN q;generalize w.drewN q=w1 at*;clear HLt
 go_loopw [4,22] (fun t i wr=>∃k:Nat,k<=n/\i= .int .i64 k/\t= .int .u64 (val (ax bs pos k))/\ni wr r v bs (pos+k)/\Kept (fun k _=>k=r) w wr) (fun _ i _=>n-(intOf i).toNat)
 case atStart=>exact ⟨0,eH _,rfl,rfl,h,hk0⟩
 case round=>
  clear h hk0;obtain ⟨k,hk,rfl,rfl,hr,hkp⟩:=hrel;by_cases hlt:k<n
  ·obtain ⟨A,c,rfl,hsl,_⟩:=aY hr.2;have c0:=hr.1.cell 0;have c1:=hr.1.cell 1;have f1:=hr.1.frozen 1;simp only[nW,oH,Dn] at c0 c1;obtain ⟨ad,u,rfl,hub,hu,hcu⟩:=hsl.get (k:=(pos+k)/8) (by omega);obtain ⟨b,hb⟩:∃b,bs[(pos+k)/8]? =some b:=⟨_,gX (by omega)⟩
   have hu':u= .int .u8 (b.toNat:Int):=by
    unfold dz at hu;rw[oW,hb] at hu;simpa[bv] using hu.symm
   subst hu';have hvl:=vR (ax bs pos k);rw[gF] at hvl;have hvs:val (ax bs pos (k+1))=2*val (ax bs pos k)+(zN bs (pos+k)).toNat:=by rw[vT,LV]
   have hbit:zN bs (pos+k)=decide (b.toNat/2 ^ (7-(pos+k)%8)%2=1):=by unfold zN;rw[Ov,hb];rfl
   rw[hbit] at hvs;generalize val (ax bs pos k)=V at*;have aj8:V<9223372036854775808:=zD hvl (by have:=Nat.pow_le_pow_right (n:=2) (by omega) (show k<=63 by omega);simpa using this);have XJ:=ah hvs;clear hvs hbit hu hb hvl;have hq8:(pos+k)/8<bs.length:=by omega
   have hmv:=hr.move (pos+k+1);have HMV:=ah hmv;have hk2:=hkp.setCell (p:=⟨r,1,none⟩) (fun _ _=>rfl) (.int .i64 ((pos+k+1:Nat):Int));have EQ:=ah hk2;have hqb:pos+k<10000000000:=by omega
   clear hmv hk2 hr hkp hsl hub;have hq1:(0:Int)<=((pos:Int)+k)/8:=by omega
   have hq2:((pos:Int)+k)/8<bs.length:=by omega
   have hq3:(((pos:Int)+k)/8).toNat=(pos+k)/8:=by omega
   have hob:=or_bit V b (7-(pos+k)%8) aj8;rw[<-XJ.out] at hob;generalize hV':val (ax bs pos (k+1))=V' at*;have HV':=ah hV';clear hV';go_wp2
   go_quiet (fail)
   clear hob hq1 hq2 hq3;have f1':(wr.drewN nq).frozen? ⟨r,1,none⟩=false:=f1;have c1':(wr.drewN nq).cell? ⟨r,1,none⟩=some (.int .i64 ((pos:Int)+k)):=by rw[show ((pos:Int)+k)=((pos+k:Nat):Int) by omega];exact c1
   clear f1 c1 c0 hcu;go_wp2
   go_roundw
   case rel=>exact ⟨k+1,by omega,by go_num,by rw[HV'.out],by
    have:=HMV.out;rw[show ((pos+k+1:Nat):Int)=(pos:Int)+k+1 by omega] at this;exact this,by
    have:=EQ.out;rw[show ((pos+k+1:Nat):Int)=(pos:Int)+k+1 by omega] at this;exact this.drewN _⟩
   case measure=>simp[intOf];omega
  ·obtain rfl:k=n:=by omega
   go_wp2
   go_ret2
   exact ⟨rfl,hr,hkp⟩
def Ui (w:World) (bs:List UInt8) (e:Ending) (w':World):Prop:=
 ∃r v,e= .returned (.pointer (some ⟨r,0,none⟩))/\w.heap.size<=r/\ni w' r v bs 0/\Below w w w'
theorem yc (A:Option Addr) (n c:Nat) (bs:List UInt8) (w:World) (h:Sl w w A n c (dz bs)) (hsm:n<=1000000000):
 Calls prog 134 #[.slice A n c] w (Ui w bs):=by
 have hl:bs.length=n:=by simpa using h.len
 have hcl:=pO A n c bs w h hsm;have HC:=ah hcl;clear hcl hsm;go_enter func134,ntmps134;go_wp2_with fail;refine HC.out.mono ?_;rintro e w1 ⟨v,rfl,hv,hb⟩;obtain ⟨A1,c1,rfl,hs1,_⟩:=aY hv;go_wp2;go_ret;refine ⟨w1,_,rfl,hb.size,⟨av.new w1 262 _,?_⟩,hb.alloc hb.size _⟩;rw[hl];exact bF (hv.alloc _) (eH _)
abbrev raise (er:Int):Ending:= .panicked [{v:= .iface 53 er,recovered:=false}]
def XK (w:World) (r:Nat) (v:Value) (bs:List UInt8) (er:Int) (pos:Nat) (e:Ending) (w':World):Prop:=
 e= .returned er/\ni w' r v bs pos/\Kept (fun k _=>k=r) w w'
theorem ER (r:Nat) (v:Value) (bs:List UInt8) (pos:Nat) (w:World) (h:ni w r v bs pos) (hsm:bs.length<=1000000000) (hp:pos<=8*bs.length):
 Calls prog 183 #[.pointer (some r)] w (XK w r v bs (if val (ax bs pos (nH pos))=0 then 0 else 9) (if val (ax bs pos (nH pos))=0 then pos+nH pos else pos)):=by
 have hn8:nH pos<8:=by unfold nH;omega
 have hfit:pos+nH pos<=8*bs.length:=by unfold nH;omega
 have hg:=Kg r v bs pos (nH pos) w h hsm (by omega) hfit;have c1:=h.1.cell 1;simp at c1;have abq:(8-(pos:Int)%8)%8=(nH pos:Int):=by unfold nH;omega
 have HG:=ah hg;generalize nH pos=n at*;generalize val (ax bs pos n)=V at*;have hps:pos<10000000000:=by omega
 clear hg hfit hsm;by_cases hV:V=0
 ·subst hV;simp only[kE];go_enter func183,ntmps183;go_wp2_with fail;refine HG.out.mono ?_;rintro e w1 ⟨rfl,hr1,hk1⟩;go_wp2;go_ret;exact ⟨rfl,hr1,hk1⟩
 ·have hV':((V:Int) !=0)=true:=by simp;omega
  simp only[aP hV];go_enter func183,ntmps183;go_wp2_with fail;refine HG.out.mono ?_;rintro e w1 ⟨rfl,hr1,hk1⟩;have c1:=hr1.1.cell 1;have f1:=hr1.1.frozen 1;simp at c1;have e1:((pos:Int)+n)-n=pos:=by omega
  go_wp2;go_ret;exact ⟨rfl,hr1.move pos,hk1.setCell (p:=⟨r,1,none⟩) (fun _ _=>rfl) _⟩
theorem Mf:(prog.info? 204).map (fun i=>(i.zero,i.size,i.bytes))=some (some (.int .u64 0),1,8):=by kernel_rfl
theorem Uj:prog.underlying 220=some (.slice 204):=by kernel_rfl
def getAll (bs:List UInt8) (pos:Nat) (ws:List Nat):List Nat:=(List.range ws.length).map fun i=>val (ax bs (pos+(ws.take i).sum) (ws[i]?.getD 0))
def uo (l:List Nat):List Value:=l.map fun (x:Nat)=>Value.int .u64 (x:Int)
def kM (l:List Nat):List Value:=l.map fun (x:Nat)=>Value.int .i64 (x:Int)
theorem CJ (bs:List UInt8) (pos:Nat) (ws:List Nat) (k n:Nat) (h:ws[k]? =some n):getAll bs pos (ws.take (k+1))=getAll bs pos (ws.take k)++ [val (ax bs (pos+(ws.take k).sum) n)]:=by
 have hk:k<ws.length:=(pN.1 h).1;unfold getAll;have e1:(ws.take (k+1)).length=k+1:=by simp;omega
 have e2:(ws.take k).length=k:=by simp;omega
 rw[e1,e2,TT,Er]
 congr 1
 ·apply List.map_congr_left;intro i hi;rw[List.mem_range] at hi;rw[List.take_take,List.take_take,pW,pW,bD (by omega),bD hi,Nat.min_eq_left (by omega),Nat.min_eq_left (by omega)]
 ·simp only[vw,xS];rw[List.take_take,pW,bD (by omega),Nat.min_eq_left (by omega),h];rfl
theorem zX (ws:List Nat) (k n:Nat) (h:ws[k]? =some n):(ws.take (k+1)).sum=(ws.take k).sum+n:=by
 rw[pX,h,List.sum_append];simp
theorem ol (ws:List Nat) (k:Nat):(ws.take k).sum<=ws.sum:=by
 conv=>rhs;rw[<-List.take_append_drop k ws]
 rw[List.sum_append];omega
theorem Uk (be bf br bo:Nat) (u:FrameMode) (w:World) (he:av w be 53 #[.int .i64 0]):
 CallsD prog 205 #[.pointer (some be),.pointer (some bf),.pointer (some br),.pointer (some bo)] u w fun e u' w'=>u'=u/\(e= .returned (.tuple #[])/\w=w'):=by
 have c0:=he.cell 0;simp at c0
 go_enter_d func205,ntmps205
 go_wp2
 go_end0
 exact ⟨rfl,rfl⟩
theorem RE (be bf br bo r pos q:Nat) (er:Int) (vo v0:Value) (u:FrameMode) (w:World) (he:av w be 53 #[er]) (TA:(er !=0)=true) (hf:av w bf 3 #[pos]) (hr:av w br 216 #[.pointer (some r)])
 (ho:av w bo 220 #[vo]) (hrr:av w r 262 #[v0,q]) (hne:bo≠r):
 CallsD prog 205 #[.pointer (some be),.pointer (some bf),.pointer (some br),.pointer (some bo)] u w fun e u' w'=>u'=u/\(e= .returned (.tuple #[])/\(w.setCell ⟨r,1,none⟩ pos).setCell bo (.slice none 0 0)=w'):=by
 have c0:=he.cell 0;have c1:=hf.cell 0;have c2:=hr.cell 0;have c3:=ho.cell 0;have f3:=ho.frozen 0;have c4:=hrr.cell 1;have f4:=hrr.frozen 1;simp at c0 c1 c2 c3 c4;have c3':(w.setCell ⟨r,1,none⟩ pos).cell? bo=some vo:=by
  have:=(ho.far (p:=⟨r,1,none⟩) hne pos).cell 0;simpa using this
 have f3':(w.setCell ⟨r,1,none⟩ pos).frozen? bo=false:=(ho.far (p:=⟨r,1,none⟩) hne pos).frozen 0
 go_enter_d func205,ntmps205
 go_wp2
 go_end0
 exact ⟨rfl,rfl⟩
structure BI (w:World) (r:Nat) (v:Value) (bs:List UInt8) (pos:Nat) (ws:List Nat) (k:Nat) (wr:World) (vo:Value):Prop where
 br:av wr w 216 #[.pointer (some r)]
 bo:av wr (w+1) 220 #[vo]
 be:av wr (w.heap.size+1+1) 53 #[.int .i64 0]
 bf:av wr (w.heap.size+1+1+1) 3 #[pos]
 rd:ni wr r v bs (pos+(ws.take k).sum)
 ow:wr.ownsRow w 204 1 vo k (uo (getAll bs pos (ws.take k)))
 kp:Kept (fun j _=>j=r\/w<=j) w wr
theorem BI.step {w:World} {r:Nat} {v:Value} {bs:List UInt8} {pos:Nat} {ws:List Nat} {k:Nat} {wr w1:World} {vo:Value} (st:BI w r v bs pos ws k wr vo) (hr:r<w) (hk:Kept (fun j _=>j=r) wr w1):
 av w1 w 216 #[.pointer (some r)]/\av w1 (w+1) 220 #[vo]/\av w1 (w.heap.size+1+1) 53 #[.int .i64 0]/\av w1 (w.heap.size+1+1+1) 3 #[pos]/\
  w1.ownsRow w 204 1 vo k (uo (getAll bs pos (ws.take k)))/\Kept (fun j _=>j=r\/w<=j) w w1:=
 ⟨st.br.kept hk (by omega),st.bo.kept hk (by omega),st.be.kept hk (by omega),st.bf.kept hk (by omega),mI st.ow hk (fun j o _ hj e=>by have:=(st.ow.lt j hj).1;omega),st.kp.trans (hk.mono fun _ _ e=> .inl e)⟩
def QE (w:World) (r:Nat) (v:Value) (bs:List UInt8) (pos:Nat) (ws:List Nat) (e:Ending) (w':World):Prop:=
 ∃vo,e= .returned (.tuple #[vo,.int .i64 0])/\w'.ownsRow w 204 1 vo ws.length (uo (getAll bs pos ws))/\ni w' r v bs (pos+ws.sum)/\Kept (fun k _=>k=r\/w<=k) w w'
theorem XL (r b:Nat) (v:Value) (bs:List UInt8) (pos:Nat) (ws:List Nat) (w:World) (h:ni w r v bs pos) (hsm:bs.length<=1000000000) (hws:∀n∈ws,n<=64) (hwl:ws.length<=1000)
 (hb:av w b 3 (kM ws).toArray) (hfit:pos+ws.sum<=8*bs.length):
 Calls prog 174 #[.pointer (some r),.slice (some ⟨b,0,none⟩) ws.length ws.length,.func (.func 175) #[.pointer (some r)] #[]] w (QE w r v bs pos ws):=by
 obtain ⟨i0,hi,hz0,hz1,hz2⟩:=vz Mf;have c1:=h.1.cell 1;simp at c1;have hrl:=h.1.lt;have hbl:=hb.lt;have hrb:b≠r:=by
  rintro rfl;have h1:=h.1;unfold av at h1 hb;rw[h1] at hb;injection hb with hb
  injection hb with _ h2
  exact absurd h2 (by decide)
 have HWS:=ah hws;have zP:=ah hsm;have HF:=ah hfit;clear hws hsm hfit;obtain ⟨N,hN⟩:∃N,ws.length=N:=⟨_,rfl⟩
 rw[hN] at hwl ⊢;have HN:=ah hN;clear hN;have c1':=(((h.1.alloc (.cells #[.pointer (some r)] 216)).alloc (.cells #[.slice none 0 0] 220)).alloc (.cells #[.int .i64 0] 53)).cell 1;simp only[nW,oH,Dn] at c1';have hst:BI w r v bs pos ws 0 ((((w.alloc (.cells #[.pointer (some r)] 216)).alloc (.cells #[.slice none 0 0] 220)).alloc (.cells #[.int .i64 0] 53)).alloc (.cells #[pos] 3)) (.slice none 0 0):=by
  refine ⟨(((av.new w _ _).alloc _).alloc _).alloc _,?_,?_,?_,?_,jl _ _ _ _,((((Kept.refl _ w).alloc _).alloc _).alloc _).alloc _⟩
  ·simpa using ((av.new (w.alloc (.cells #[.pointer (some r)] 216)) 220 #[.slice none 0 0]).alloc (.cells #[.int .i64 0] 53)).alloc (.cells #[pos] 3)
  ·simpa using (av.new ((w.alloc (.cells #[.pointer (some r)] 216)).alloc (.cells #[.slice none 0 0] 220)) 53 #[.int .i64 0]).alloc (.cells #[pos] 3)
  ·simpa using av.new (((w.alloc (.cells #[.pointer (some r)] 216)).alloc (.cells #[.slice none 0 0] 220)).alloc (.cells #[.int .i64 0] 53)) 3 #[pos]
  ·exact ⟨(((h.1.alloc _).alloc _).alloc _).alloc _,(((h.2.alloc _).alloc _).alloc _).alloc _⟩
 have HST:=ah hst;clear hst
 go_enter_defers func174,ntmps174
 go_wp2
 go_loopw [22] (fun i wr=>∃(k:Nat) (vo:Value),k<=N/\i= .int .i64 k/\BI w r v bs pos ws k wr vo) (fun i _=>N-(intOf i).toNat)
 case atStart=>exact ⟨0,_,eH _,rfl,HST.out⟩
 case round=>
  obtain ⟨k,vo,hk,rfl,st⟩:=hrel;by_cases hlt:k<N
  ·obtain ⟨n,hn⟩:∃n,ws[k]? =some n:=⟨_,gX (by rw[HN.out];exact hlt)⟩
   have XM:=HWS.out n (iT hn);have hsn:=zX ws k n hn;have hga:=CJ bs pos ws k n hn;have hle:=ol ws (k+1);have hbk:av wr b 3 (kM ws).toArray:=hb.kept st.kp (by rintro (e|e);exact hrb e;omega);have hcb:=hbk.cell k;have T7:wr.cell? ⟨b,k,none⟩=some (.int .i64 n):=by rw[hcb,nW];unfold kM;rw[oW,hn];rfl
   have hget:=Kg r v bs (pos+(ws.take k).sum) n wr st.rd zP.out XM (by have:=HF.out;omega);have HG:=ah hget;have WS:=ah hsn;have HGA:=ah hga;clear hget hcb hsn hga hle hbk hn;go_wp2_with fail;refine HG.out.mono ?_;rintro e1 w1 ⟨rfl,hr1,hk1⟩;have st1:=st.step hrl hk1;generalize val (ax bs (pos+(ws.take k).sum) n)=x at*;clear HG st T7;obtain ⟨Oi,GI,zq,WU,Dw,XN⟩:=st1;have co:=GI.cell 0;simp at co;go_wp2_with (at_builtin;refine IA _ rfl _ _ 220 rfl w 204 i0 (.int .u64 0) 1 8 Uj hi hz0 hz1 hz2 rfl (by decide) _ _ _ rfl (Dw.alloc _) ⟨w1,0,none⟩ 1 1 [.int .u64 x] rfl rfl ?c1 ?c2 ?c3 ?c4 ?c5 ?_)
   case c1=>exact cell_one_new _ _ _
   case c2=>simp[Value.oneCell']
   case c3=>unfold maxLen;omega
   case c4=>omega
   case c5=>have:=XN.size;simp;omega
   intro v' w2 hown' hgrow _;have hin:∀j,vo.ownBlock=some j->w.heap.size<=j:=fun j hj=>(Dw.lt j hj).1
   have ES:=(GI.alloc (.cells #[.int .u64 x] 204)).grown hgrow (fun e=>aK Dw GI (by decide) e.symm);have abt:=(Oi.alloc (.cells #[.int .u64 x] 204)).grown hgrow (fun e=>aK Dw Oi (by decide) e.symm);have abu:=(zq.alloc (.cells #[.int .u64 x] 204)).grown hgrow (fun e=>aK Dw zq (by decide) e.symm);have abv:=(WU.alloc (.cells #[.int .u64 x] 204)).grown hgrow (fun e=>aK Dw WU (by decide) e.symm);have hk2:Kept (fun j _=>j=r\/w.heap.size<=j) w w2:=(XN.alloc (.cells #[.int .u64 x] 204)).grown hgrow (fun j hj o _=> .inr (hin j hj));have hr2:ni w2 r v bs (pos+(ws.take k).sum+n):=by
    refine ⟨(hr1.1.alloc _).grown hgrow (fun e=>aK Dw hr1.1 (by decide) e.symm),(hr1.2.alloc _).kept hgrow ?_⟩;rcases hq:v.ownBlock with _|j
    ·exact .inl rfl
    ·refine .inr (fun e=> ?_);obtain ⟨o1,ho1,⟨cs1,fr1,rfl⟩,_⟩:=dR hr1.2 hq;obtain ⟨o2,ho2,⟨cs2,fr2,rfl⟩,_⟩:=dR Dw e.symm;rw[ho1] at ho2;cases ho2
   have co2:=ES.cell 0;have fo2:=ES.frozen 0;simp at co2;obtain ⟨g',cap',rfl,hgl,oL⟩:=hown'.form (by omega);go_wp2
   go_roundw
   case rel=>
    refine ⟨k+1,.slice (some ⟨g',0,none⟩) (k+1) cap',by omega,by go_num,⟨abt.far (by simp) _,by simpa using ES.ay 0 (.slice (some ⟨g',0,none⟩) (k+1) cap'),abu.far (by simp<;>omega) _,abv.far (by simp<;>omega) _,?_,?_,hk2.setCell (p:=⟨w+1,0,none⟩) (fun _ _=> .inr (by simp)) _⟩⟩
    ·rw[WS.out,<-zH];exact ⟨hr2.1.far (by simp<;>omega) _,hr2.2.kept (aR _ _ 0 _) (.inr (aK hr2.2 ES (by decide)))⟩
    ·rw[HGA.out];have:=hown'.kept (aR w2 (w+1) 0 (.slice (some ⟨g',0,none⟩) (k+1) cap')) (.inr (aK hown' ES (by decide)));simpa[uo] using this
   case measure=>simp[intOf];omega
  ·have e:ws.take k=ws:=kI (by rw[HN.out];omega);obtain ⟨Oi,GI,zq,WU,rd1,Dw,XN⟩:=st;rw[e] at rd1 Dw;have hkN:k=N:=by omega
   rw[hkN,<-HN.out] at Dw;clear e hkN;obtain ⟨A1,Ho,rfl,hs1,_⟩:=aY Dw;have co:=GI.cell 0;have fo:=GI.frozen 0;have ce:=zq.cell 0;have fe:=zq.frozen 0;simp at co ce;have Ul:av ((wr.setCell ⟨w+1,0,none⟩ (.slice A1 ws.length Ho)).setCell ⟨w.heap.size+1+1,0,none⟩ (.int .i64 0)) (w.heap.size+1+1) 53 #[.int .i64 0]:=by
    simpa using (zq.far (p:=⟨w+1,0,none⟩) (by simp<;>omega) (.slice A1 ws.length Ho)).ay 0 (.int .i64 0)
   have Um:av ((wr.setCell ⟨w+1,0,none⟩ (.slice A1 ws.length Ho)).setCell ⟨w.heap.size+1+1,0,none⟩ (.int .i64 0)) (w+1) 220 #[.slice A1 ws.length Ho]:=by
    simpa using (GI.ay 0 (.slice A1 ws.length Ho)).far (p:=⟨w.heap.size+1+1,0,none⟩) (by simp<;>omega) (.int .i64 0)
   have hkp3:=(XN.setCell (p:=⟨w+1,0,none⟩) (fun _ _=> .inr (by simp)) (.slice A1 ws.length Ho)).setCell (p:=⟨w.heap.size+1+1,0,none⟩) (fun _ _=> .inr (by simp<;>omega)) (.int .i64 0);have akb:=(Dw.kept (aR wr (w+1) 0 (.slice A1 ws.length Ho)) (.inr (aK Dw GI (by decide)))).kept (aR _ (w.heap.size+1+1) 0 (.int .i64 0)) (.inr (aK Dw zq (by decide)));have qN:ni ((wr.setCell ⟨w+1,0,none⟩ (.slice A1 ws.length Ho)).setCell ⟨w.heap.size+1+1,0,none⟩ (.int .i64 0)) r v bs (pos+ws.sum):=
    ⟨(rd1.1.far (p:=⟨w+1,0,none⟩) (by simp<;>omega) _).far (p:=⟨w.heap.size+1+1,0,none⟩) (by simp<;>omega) _,
     (rd1.2.kept (aR wr (w+1) 0 (.slice A1 ws.length Ho)) (.inr (aK rd1.2 GI (by decide)))).kept (aR _ (w.heap.size+1+1) 0 (.int .i64 0)) (.inr (aK rd1.2 zq (by decide)))⟩
   go_wp2;refine nD (f:=205) (args:= #[.pointer (some ⟨w.heap.size+1+1,0,none⟩),.pointer (some ⟨w.heap.size+1+1+1,0,none⟩),.pointer (some w),.pointer (some ⟨w+1,0,none⟩)]) (by simp) (by simp[go_sem]) ?_;refine (Uk _ _ _ _ .returning _ Ul).mono ?_;rintro e u' w'' ⟨rfl,rfl,rfl⟩;have ce3:=Ul.cell 0;have co3:=Um.cell 0;simp at ce3 co3;refine ⟨.tuple #[.slice A1 ws.length Ho,.int .i64 0],by simp[results,results174,go_sem,ce3,co3],_,rfl,akb,qN,hkp3⟩
def I1 (w:World) (r:Nat) (v:Value) (bs:List UInt8) (pos:Nat) (e:Ending) (w':World):Prop:=
 e= .returned (.tuple #[.slice none 0 0,.int .i64 5])/\ni w' r v bs pos/\Kept (fun k _=>k=r\/w<=k) w w'
theorem OG (r b:Nat) (v:Value) (bs:List UInt8) (pos:Nat) (ws:List Nat) (w:World) (h:ni w r v bs pos) (hsm:bs.length<=1000000000) (hws:∀n∈ws,n<=64) (hwl:ws.length<=1000)
 (hb:av w b 3 (kM ws).toArray) (hp:pos<=8*bs.length) (hfit:8*bs.length<pos+ws.sum):
 Calls prog 174 #[.pointer (some r),.slice (some ⟨b,0,none⟩) ws.length ws.length,.func (.func 175) #[.pointer (some r)] #[]] w (I1 w r v bs pos):=by
 obtain ⟨i0,hi,hz0,hz1,hz2⟩:=vz Mf;have c1:=h.1.cell 1;simp at c1;have hrl:=h.1.lt;have hbl:=hb.lt;have hrb:b≠r:=by
  rintro rfl;have h1:=h.1;unfold av at h1 hb;rw[h1] at hb;injection hb with hb
  injection hb with _ h2
  exact absurd h2 (by decide)
 have HWS:=ah hws;have zP:=ah hsm;have HF:=ah hfit;have HP:=ah hp;clear hws hsm hfit hp;obtain ⟨N,hN⟩:∃N,ws.length=N:=⟨_,rfl⟩
 rw[hN] at hwl ⊢;have HN:=ah hN;clear hN;have c1':=(((h.1.alloc (.cells #[.pointer (some r)] 216)).alloc (.cells #[.slice none 0 0] 220)).alloc (.cells #[.int .i64 0] 53)).cell 1;simp only[nW,oH,Dn] at c1';have hst:BI w r v bs pos ws 0 ((((w.alloc (.cells #[.pointer (some r)] 216)).alloc (.cells #[.slice none 0 0] 220)).alloc (.cells #[.int .i64 0] 53)).alloc (.cells #[pos] 3)) (.slice none 0 0):=by
  refine ⟨(((av.new w _ _).alloc _).alloc _).alloc _,?_,?_,?_,?_,jl _ _ _ _,((((Kept.refl _ w).alloc _).alloc _).alloc _).alloc _⟩
  ·simpa using ((av.new (w.alloc (.cells #[.pointer (some r)] 216)) 220 #[.slice none 0 0]).alloc (.cells #[.int .i64 0] 53)).alloc (.cells #[pos] 3)
  ·simpa using (av.new ((w.alloc (.cells #[.pointer (some r)] 216)).alloc (.cells #[.slice none 0 0] 220)) 53 #[.int .i64 0]).alloc (.cells #[pos] 3)
  ·simpa using av.new (((w.alloc (.cells #[.pointer (some r)] 216)).alloc (.cells #[.slice none 0 0] 220)).alloc (.cells #[.int .i64 0] 53)) 3 #[pos]
  ·exact ⟨(((h.1.alloc _).alloc _).alloc _).alloc _,(((h.2.alloc _).alloc _).alloc _).alloc _⟩
 have HST:=ah hst;clear hst
 go_enter_defers func174,ntmps174
 go_wp2
 go_loopw [22] (fun i wr=>∃(k:Nat) (vo:Value),k<=N/\i= .int .i64 k/\BI w r v bs pos ws k wr vo/\pos+(ws.take k).sum<=8*bs.length) (fun i _=>N-(intOf i).toNat)
 case atStart=>exact ⟨0,_,eH _,rfl,HST.out,HP.out⟩
 case round=>
  obtain ⟨k,vo,hk,rfl,st,hpk⟩:=hrel;have HPK:=ah hpk;clear hpk;by_cases hlt:k<N
  ·obtain ⟨n,hn⟩:∃n,ws[k]? =some n:=⟨_,gX (by rw[HN.out];exact hlt)⟩
   have XM:=HWS.out n (iT hn);have hsn:=zX ws k n hn;have hga:=CJ bs pos ws k n hn;have hle:=ol ws (k+1);have hbk:av wr b 3 (kM ws).toArray:=hb.kept st.kp (by rintro (e|e);exact hrb e;omega);have hcb:=hbk.cell k;have T7:wr.cell? ⟨b,k,none⟩=some (.int .i64 n):=by rw[hcb,nW];unfold kM;rw[oW,hn];rfl
   by_cases hfits:pos+(ws.take k).sum+n<=8*bs.length
   ·have hget:=Kg r v bs (pos+(ws.take k).sum) n wr st.rd zP.out XM hfits;have HG:=ah hget;have WS:=ah hsn;have HGA:=ah hga;have HFT:=ah hfits;clear hget hcb hsn hga hle hbk hn hfits;go_wp2_with fail;refine HG.out.mono ?_;rintro e1 w1 ⟨rfl,hr1,hk1⟩;have st1:=st.step hrl hk1;generalize val (ax bs (pos+(ws.take k).sum) n)=x at*;clear HG st T7;obtain ⟨Oi,GI,zq,WU,Dw,XN⟩:=st1;have co:=GI.cell 0;simp at co;go_wp2_with (at_builtin;refine IA _ rfl _ _ 220 rfl w 204 i0 (.int .u64 0) 1 8 Uj hi hz0 hz1 hz2 rfl (by decide) _ _ _ rfl (Dw.alloc _) ⟨w1,0,none⟩ 1 1 [.int .u64 x] rfl rfl ?c1 ?c2 ?c3 ?c4 ?c5 ?_)
    case c1=>exact cell_one_new _ _ _
    case c2=>simp[Value.oneCell']
    case c3=>unfold maxLen;omega
    case c4=>omega
    case c5=>have:=XN.size;simp;omega
    intro v' w2 hown' hgrow _;have hin:∀j,vo.ownBlock=some j->w.heap.size<=j:=fun j hj=>(Dw.lt j hj).1
    have ES:=(GI.alloc (.cells #[.int .u64 x] 204)).grown hgrow (fun e=>aK Dw GI (by decide) e.symm);have abt:=(Oi.alloc (.cells #[.int .u64 x] 204)).grown hgrow (fun e=>aK Dw Oi (by decide) e.symm);have abu:=(zq.alloc (.cells #[.int .u64 x] 204)).grown hgrow (fun e=>aK Dw zq (by decide) e.symm);have abv:=(WU.alloc (.cells #[.int .u64 x] 204)).grown hgrow (fun e=>aK Dw WU (by decide) e.symm);have hk2:Kept (fun j _=>j=r\/w.heap.size<=j) w w2:=(XN.alloc (.cells #[.int .u64 x] 204)).grown hgrow (fun j hj o _=> .inr (hin j hj));have hr2:ni w2 r v bs (pos+(ws.take k).sum+n):=by
     refine ⟨(hr1.1.alloc _).grown hgrow (fun e=>aK Dw hr1.1 (by decide) e.symm),(hr1.2.alloc _).kept hgrow ?_⟩;rcases hq:v.ownBlock with _|j
     ·exact .inl rfl
     ·refine .inr (fun e=> ?_);obtain ⟨o1,ho1,⟨cs1,fr1,rfl⟩,_⟩:=dR hr1.2 hq;obtain ⟨o2,ho2,⟨cs2,fr2,rfl⟩,_⟩:=dR Dw e.symm;rw[ho1] at ho2;cases ho2
    have co2:=ES.cell 0;have fo2:=ES.frozen 0;simp at co2;obtain ⟨g',cap',rfl,hgl,oL⟩:=hown'.form (by omega);go_wp2
    go_roundw
    case rel=>
     refine ⟨k+1,.slice (some ⟨g',0,none⟩) (k+1) cap',by omega,by go_num,⟨abt.far (by simp) _,by simpa using ES.ay 0 (.slice (some ⟨g',0,none⟩) (k+1) cap'),abu.far (by simp<;>omega) _,abv.far (by simp<;>omega) _,?_,?_,hk2.setCell (p:=⟨w+1,0,none⟩) (fun _ _=> .inr (by simp)) _⟩,by rw[WS.out,<-zH];exact HFT.out⟩
     ·rw[WS.out,<-zH];exact ⟨hr2.1.far (by simp<;>omega) _,hr2.2.kept (aR _ _ 0 _) (.inr (aK hr2.2 ES (by decide)))⟩
     ·rw[HGA.out];have:=hown'.kept (aR w2 (w+1) 0 (.slice (some ⟨g',0,none⟩) (k+1) cap')) (.inr (aK hown' ES (by decide)));simpa[uo] using this
    case measure=>simp[intOf];omega
   ·have hget:=IZ r v bs (pos+(ws.take k).sum) n wr st.rd HPK.out zP.out XM (by have:=HPK.out;omega);have HG:=ah hget;clear hget hcb hsn hga hle hbk hn hfits;go_wp2_with fail;refine HG.out.mono ?_;rintro e1 w1 ⟨rfl,hr1,hk1⟩;obtain ⟨Oi,GI,zq,WU,Dw,XN⟩:=st.step hrl hk1;clear HG st T7;have co:=GI.cell 0;have fo:=GI.frozen 0;have ce:=zq.cell 0;have fe:=zq.frozen 0;simp at co ce;have Ul:av ((w1.setCell ⟨w+1,0,none⟩ (.slice none 0 0)).setCell ⟨w.heap.size+1+1,0,none⟩ (.int .i64 5)) (w.heap.size+1+1) 53 #[.int .i64 5]:=by
     simpa using (zq.far (p:=⟨w+1,0,none⟩) (by simp<;>omega) (.slice none 0 0)).ay 0 (.int .i64 5)
    have Um:av ((w1.setCell ⟨w+1,0,none⟩ (.slice none 0 0)).setCell ⟨w.heap.size+1+1,0,none⟩ (.int .i64 5)) (w+1) 220 #[.slice none 0 0]:=by
     simpa using (GI.ay 0 (.slice none 0 0)).far (p:=⟨w.heap.size+1+1,0,none⟩) (by simp<;>omega) (.int .i64 5)
    have akc:=(Oi.far (p:=⟨w+1,0,none⟩) (by simp<;>omega) (.slice none 0 0)).far (p:=⟨w.heap.size+1+1,0,none⟩) (by simp<;>omega) (.int .i64 5);have akd:=(WU.far (p:=⟨w+1,0,none⟩) (by simp<;>omega) (.slice none 0 0)).far (p:=⟨w.heap.size+1+1,0,none⟩) (by simp<;>omega) (.int .i64 5);have hkp3:=(XN.setCell (p:=⟨w+1,0,none⟩) (fun _ _=> .inr (by simp)) (.slice none 0 0)).setCell (p:=⟨w.heap.size+1+1,0,none⟩) (fun _ _=> .inr (by simp<;>omega)) (.int .i64 5);have qN:ni ((w1.setCell ⟨w+1,0,none⟩ (.slice none 0 0)).setCell ⟨w.heap.size+1+1,0,none⟩ (.int .i64 5)) r v bs (pos+(ws.take k).sum):=
     ⟨(hr1.1.far (p:=⟨w+1,0,none⟩) (by simp<;>omega) _).far (p:=⟨w.heap.size+1+1,0,none⟩) (by simp<;>omega) _,
      (hr1.2.kept (aR w1 (w+1) 0 (.slice none 0 0)) (.inr (aK hr1.2 GI (by decide)))).kept (aR _ (w.heap.size+1+1) 0 (.int .i64 5)) (.inr (aK hr1.2 zq (by decide)))⟩
    go_wp2;refine nD (f:=205) (args:= #[.pointer (some ⟨w.heap.size+1+1,0,none⟩),.pointer (some ⟨w.heap.size+1+1+1,0,none⟩),.pointer (some w),.pointer (some ⟨w+1,0,none⟩)]) (by simp) (by simp[go_sem]) ?_;refine (RE _ _ _ _ r pos _ 5 _ _ .returning _ Ul rfl akd akc Um qN.1 (by omega)).mono ?_;rintro e u' w'' ⟨rfl,rfl,rfl⟩;have ake:=(Ul.far (p:=⟨r,1,none⟩) (by simp<;>omega) pos).far (p:=⟨w+1,0,none⟩) (by simp<;>omega) (.slice none 0 0);have akf:=(Um.far (p:=⟨r,1,none⟩) (by simp<;>omega) pos).ay 0 (.slice none 0 0);have ce3:=ake.cell 0;have co3:=akf.cell 0;simp at ce3 co3;have ET:=qN.move pos;refine ⟨.tuple #[.slice none 0 0,.int .i64 5],by simp[results,results174,go_sem,ce3,co3],rfl,⟨ET.1.far (p:=⟨w+1,0,none⟩) (by simp<;>omega) _,ET.2.kept (aR _ (w+1) 0 (.slice none 0 0)) (.inr (aK ET.2 (Um.far (p:=⟨r,1,none⟩) (by simp<;>omega) pos) (by decide)))⟩,(hkp3.setCell (p:=⟨r,1,none⟩) (fun _ _=> .inl rfl) _).setCell (p:=⟨w+1,0,none⟩) (fun _ _=> .inr (by simp)) _⟩
  ·have e:ws.take k=ws:=kI (by rw[HN.out];omega);have:=HPK.out;have:=HF.out;rw[e] at*;omega
theorem sM (r b:Nat) (v:Value) (bs:List UInt8) (pos:Nat) (ws:List Nat) (w:World) (h:ni w r v bs pos) (hsm:bs.length<=1000000000) (hws:∀n∈ws,n<=64) (hwl:ws.length<=1000)
 (hb:av w b 3 (kM ws).toArray) (hfit:pos+ws.sum<=8*bs.length):
 Calls prog 136 #[.pointer (some r),.slice (some ⟨b,0,none⟩) ws.length ws.length] w (QE w r v bs pos ws):=by
 have hE:=XL r b v bs pos ws w h hsm hws hwl hb hfit;have HE:=ah hE;clear hE hsm hws;go_enter func136,ntmps136;go_wp2_with fail;refine HE.out.mono ?_;rintro e w' ⟨vo,rfl,h1,h2,h3⟩;go_wp2
 go_ret2
 exact ⟨vo,rfl,h1,h2,h3⟩
theorem mJ (r b:Nat) (v:Value) (bs:List UInt8) (pos:Nat) (ws:List Nat) (w:World) (h:ni w r v bs pos) (hsm:bs.length<=1000000000) (hws:∀n∈ws,n<=64) (hwl:ws.length<=1000)
 (hb:av w b 3 (kM ws).toArray) (hp:pos<=8*bs.length) (hfit:8*bs.length<pos+ws.sum):
 Calls prog 136 #[.pointer (some r),.slice (some ⟨b,0,none⟩) ws.length ws.length] w (I1 w r v bs pos):=by
 have hE:=OG r b v bs pos ws w h hsm hws hwl hb hp hfit;have HE:=ah hE;clear hE hsm hws;go_enter func136,ntmps136;go_wp2_with fail;refine HE.out.mono ?_;rintro e w' ⟨rfl,h2,h3⟩;go_wp2
 go_ret2
 exact ⟨rfl,h2,h3⟩
end Go.Proofs.YtbhiklnljiehiaaGreat
