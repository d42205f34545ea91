/- amrecv: none, place, has, count, complet. -/
import Derived.Test.YtbhiklnljiehiaaGreatM3al
import Derived.Test.YtbhiklnljiehiaaGreatM3am
import Derived.Test.YtbhiklnljiehiaaGreatM3an
set_option maxHeartbeats 1000000
set_option maxRecDepth 100000
namespace Go.Proofs.YtbhiklnljiehiaaGreat
open RowKit Shelf Tryz
attribute [local go_sem] Oper.semAt_some
theorem wK (n:Int):bits .and .i64 n 1023=n%1024:=by
 have h127:(BitVec.ofInt 64 1023).toNat=2 ^ 10-1:=by decide
 have key:(BitVec.ofInt 64 n&&& BitVec.ofInt 64 1023).toNat=(n%((2 ^ 64:Nat):Int)).toNat%2 ^ 10:=by
  rw[BitVec.toNat_and,BitVec.toNat_ofInt,h127,Nat.and_two_pow_sub_one_eq_mod]
 show IntKind.i64.wrap ((BitVec.ofInt 64 n&&& BitVec.ofInt 64 1023).toNat:Nat)=n%1024
 rw[key,vk];omega
section
variable {w w':World} {T:Nat->Nat} {g M n:Nat} {c:Cf} {st:Rc} {vo:Value}
theorem sZ (h:jo w T g M n c st vo):Calls prog 79 #[.pointer (some g)] w fun e w'=>e= .returned (.bool false)/\w=w':=by
 have x7:=h.cells.2.2.1;have q:∀(w:World) (r:Option Nat),(binOp .eql 128 (.map r) (.map none)).run prog w= .ok (.bool r.isNone) w:=fun w r=>run_eql_map_nil w _ _ _ r Ea
 clear h;go_enter func79,ntmps79;go_wp2;go_ret;exact ⟨rfl,rfl⟩
theorem Dc (w:World) (next sn:Nat) (h:w.cell? ⟨g,8,none⟩=some (.int .i64 (next:Nat))) (hn:next<=1023) (hs:sn<=1023):
 Calls prog 97 #[.pointer (some g),sn] w fun e w'=>e= .returned (.int .i64 ((sn+1024-next)%1024:Nat))/\w=w':=by
 have hand:bits BinOp.and IntKind.i64 ((sn:Int)-next) 1023=(((sn+1024-next)%1024:Nat):Int):=by rw[wK];omega
 go_enter func97,ntmps97;go_wp2;go_ret;exact ⟨rfl,rfl⟩
theorem FL (h:jo w T g M n c st vo) (ho:fM st) (sn:Nat) (hs:sn<=1023):
 Calls prog 97 #[.pointer (some g),sn] w fun e w'=>e= .returned (.int .i64 (bZ st sn:Nat))/\w=w':=
 Dc w st.next sn h.cells.2.2.2.1 ho.n1 hs
theorem uH (er:Int) (w:World):Calls prog 96 #[.bool true,er] w fun e w'=>e= .returned (.tuple #[])/\w=w':=by
 go_enter func96,ntmps96;go_wp2
 go_end0
 exact ⟨rfl,rfl⟩
abbrev KH (er:Int):Ending:= .panicked [{v:= .iface 53 er,recovered:=false}]
theorem rC (er:Int) (w:World):Calls prog 96 #[.bool false,er] w fun e w'=>e=KH er/\w=w':=by
 unfold KH;go_enter func96,ntmps96;go_wp2;exact ⟨rfl,rfl,rfl⟩
end
section
variable {w:World} {A:Option Addr} {n c:Nat} {l:List Fl}
theorem FM (h:qV w A n c l) (at_:Nat) (hat:at_<=100000) (which:Nat) (hw:which<3):
 Calls prog 156 #[.slice A n c,at_,which] w fun e w'=>e= .returned (.bool (if which=0 then (dZ l at_).1 else if which=1 then (dZ l at_).2.1 else (dZ l at_).2.2))/\w=w':=by
 have hcap:=h.cap;have hmx:=h.mx;have hlen:=h.len;by_cases hlt:at_<n
 ·obtain ⟨g,o,rfl,hg,hc⟩:=h.at_ (by omega);obtain ⟨f,hf⟩:∃f,l[at_]? =some f:=⟨_,gX (by omega)⟩
  obtain ⟨k0,k1,k2⟩:=hc at_ f hf;rw[jZ hf];clear hc h hf hlen;obtain rfl|rfl|rfl:which=0\/which=1\/which=2:=by omega
  all_goals
   go_enter func156,ntmps156;go_wp2;go_ret;exact ⟨rfl,rfl⟩
 ·have hf:dZ l at_=fl0:=by unfold dZ;rw[kV (by omega)];rfl
  rw[hf];clear h hf hlen;obtain rfl|rfl|rfl:which=0\/which=1\/which=2:=by omega
  all_goals
   go_enter func156,ntmps156;go_wp2;go_ret;exact ⟨rfl,rfl⟩
theorem Se {l:List Fl} {k:Nat} {f:Fl} (hf:l[k]? =some f):om (l.take (k+1))=om (l.take k)+f.1.toNat:=by
 unfold om;rw[pX,hf];simp
theorem Pw (h:qV w A n c l) (hn:n<=100000):
 Calls prog 162 #[.slice A n c] w fun e w'=>e= .returned (.int .i64 (om l:Nat))/\Below w w w':=by
 have hcap:=h.cap;have hmx:=h.mx;have HH:=ah h;have hlen:=h.len;clear h;go_enter func162,ntmps162;go_wp2
 go_loopw [2,7] (fun s i wr=>∃k:Nat,k<=n/\i= .int .i64 k/\s= .int .i64 (om (l.take k):Nat)/\Below w w wr) (fun _ i _=>n-(intOf i).toNat)
 case atStart=>exact ⟨0,eH _,rfl,rfl,bS _ w⟩
 case round=>
  obtain ⟨k,hk,rfl,rfl,hb⟩:=hrel;by_cases hlt:k<n
  ·obtain ⟨g,o,rfl,hg,hc⟩:=(HH.out.below hb).at_ (by omega);obtain ⟨f,hf⟩:∃f,l[k]? =some f:=⟨_,gX (by omega)⟩
   obtain ⟨k0,k1,k2⟩:=hc k f hf;have hle:=xu (l.take k);rw[kz] at hle;have ht:=Se hf;obtain ⟨fg,fs,fe⟩:=f;dsimp only at k0 k1 k2 ht;generalize om (l.take k)=S at*;have HT:=ah ht;have HB:=ah (hb.alloc hb.size (.cells #[.bool fg,.bool fs,.bool fe] 174));clear hc ht hf hb;cases fg with
   |true=>
    go_wp2
    go_round
    case rel=>exact ⟨k+1,by omega,by go_num,by rw[HT.out];go_num,HB.out⟩
    case measure=>simp[intOf];omega
   |false=>
    go_wp2
    go_round
    case rel=>exact ⟨k+1,by omega,by go_num,by rw[HT.out];go_num,HB.out⟩
    case measure=>simp[intOf];omega
  ·have e:l.take k=l:=kI (by omega);rw[e];have HB:=ah hb;clear e hb;go_wp2;go_ret;exact ⟨rfl,HB.out⟩
end
section
variable {w w':World} {T:Nat->Nat} {g M n:Nat} {c:Cf} {st:Rc} {vo:Value}
theorem yS (w:World):Calls prog 117 #[.pointer none] w fun e w'=>e= .returned (.bool false)/\Below w w w':=by
 go_enter func117,ntmps117;go_wp2_with fail
 go_quiet (fail)
 go_wp2_with fail;go_ret;exact ⟨rfl,(bS _ w).drewN nq⟩
theorem yT {b:Nat} {p:Sp} {vf vd:Value} (h:uG w b p vf vd) (ho:DF p):
 Calls prog 117 #[.pointer (some b)] w fun e w'=>e= .returned (.bool (fP p))/\Below w w w':=by
 obtain ⟨x0,x1,x2⟩:w.cell? b=some vf/\w.cell? ⟨b,1,none⟩=some vd/\w.cell? ⟨b,2,none⟩=some (.int .i64 (dY p)):=⟨h.blk.cell 0,h.blk.cell 1,h.blk.cell 2⟩;have hbl:=h.blk.lt;have hi:=ho.i;obtain ⟨A,cc,rfl,hs⟩:=qV.eu h.fr;have hle:=ho.le;have hcnt:∀W,Below w w W->Calls prog 162 #[.slice A p.fl.length cc] W fun e w'=>e= .returned (.int .i64 (om p.fl:Nat))/\Below w w w':=fun W hW=>
  (Pw (hs.below hW) (by omega)).mono fun e w' hh=>⟨hh.1,hW.trans (hh.2.mono hW.size)⟩
 have HC:=ah hcnt;have hgl:=xu p.fl;by_cases hz:0<dY p
 ·have d1:decide (dY p>0)=true:=by simpa using hz
  have hb0:=bS w w;have hres:(((om p.fl:Nat):Int)==dY p)=fP p:=by
   unfold dY at hz ⊢;unfold fP;cases hs2:p.size with
   |none=>rw[hs2] at hz;simp at hz
   |some k=>
    rw[hs2] at hz;dsimp only at hz ⊢;rw[iK (show 0<k by omega),Du];by_cases e:om p.fl=k
    ·rw[e];simp
    ·rw[iP e];simp;omega
  have akU:=ah hres;have KI:=ah hi;clear hres h hcnt hz hs ho;generalize dY p=S at*;generalize om p.fl=G at*;go_enter func117,ntmps117;go_wp2_with fail
  go_region_held3 (fun W=>W.cell? b=some (.slice A p.fl.length cc)/\W.cell? ⟨b,2,none⟩=some (.int .i64 S))
   (first|exact ⟨x0,x2⟩|exact ⟨(hb1.cell (p:=⟨b,0,none⟩) hbl).trans x0,(hb1.cell (p:=⟨b,2,none⟩) hbl).trans x2⟩|go_keep)
   (first
    |(go_at_call 162;refine (HC.out _ (by (repeat first|assumption|refine Below.drew ?_|refine Below.drewN ?_ _))).mono ?_;rintro e1 w1 ⟨rfl,hb1⟩)
    |fail)
  all_goals
   go_wp2_with fail;go_ret;exact ⟨by rw[<-akU.out];rfl,by assumption⟩
 ·have d1:decide (dY p>0)=false:=by simpa using hz
  have hres:fP p=false:=by
   unfold dY at hz;unfold fP;cases hs2:p.size with
   |none=>rfl
   |some k=>
    rw[hs2] at hz;dsimp only at hz ⊢;rw[iP (show ¬0<k by omega)];rfl
  rw[hres];clear hres h hcnt hz hs ho hi;generalize dY p=S at*;go_enter func117,ntmps117;go_wp2_with fail
  go_quiet (fail)
  go_wp2_with fail;go_ret;exact ⟨rfl,(bS _ w).drewN nq⟩
theorem jo.look (h:jo w T g M n c st vo) {k:Nat} (hk:k<=1023):∃v,(Instr.lookup 128 (.map (some M)) k false).run prog w= .ok v w/\((st.m k=none/\v= .pointer none)\/∃p b vf vd,st.m k=some p/\v= .pointer (some ⟨b,0,none⟩)/\uG w b p vf vd/\T b=3*k+4/\(∀j,vf.ownBlock=some j->T j=3*k+5)/\(∀j,vd.ownBlock=some j->T j=3*k+6)):=by
 obtain ⟨F,h1,h2⟩:=h.mp;refine ⟨(F k).getD (.pointer none),h1.af3 AX Ea (Pt w) (by omega),?_⟩;cases hm:st.m k with
 |none=>exact .inl ⟨rfl,by rw[(h2 k).1 hm];rfl⟩
 |some p=>
  obtain ⟨b,vf,vd,e,hs,t1,t2,t3⟩:=(h2 k).2 p hm;exact .inr ⟨p,b,vf,vd,rfl,by rw[e];rfl,hs,t1,t2,t3⟩
theorem jo.af4 (h:jo w T g M n c st vo) (ho:fM st) {k:Nat} (hk:k<=1023):∃v,(Instr.lookup 128 (.map (some M)) k false).run prog w= .ok v w/\
 Calls prog 117 #[v] w fun e w'=>e= .returned (.bool (dW (st.m k)))/\Below w w w':=by
 obtain ⟨v,hr,⟨hm,rfl⟩|⟨p,b,vf,vd,hm,rfl,hs,_⟩⟩:=h.look hk
 ·refine ⟨_,hr,?_⟩;rw[hm];exact yS w
 ·refine ⟨_,hr,?_⟩;rw[hm];exact yT hs (ho.m k p hm).2.2
theorem fM.stops (ho:fM st) {sn:Nat} (hs:sn<=1023):∃j,j<1024/\dW (st.m ((sn+j)%1024))=false:=by
 refine ⟨((st.next+512)%1024+1024-sn)%1024,by omega,?_⟩;have hn:=ho.n1;rw[show (sn+((st.next+512)%1024+1024-sn)%1024)%1024=(st.next+512)%1024 by omega];cases hm:st.m ((st.next+512)%1024) with
 |none=>rfl
 |some p=>
  have:=(ho.m _ p hm).2.1;unfold bZ at this;omega
theorem AY (m:Nat->Option Sp):∀(f sn:Nat),sn<=1023->lN m f sn<=1023
 |0,_,h=>h
 |f+1,sn,h=>by
  unfold lN;split
  ·exact AY m f _ (by unfold eD;omega)
  ·exact h
theorem Jr (h:jo w T g M n c st vo) (ho:fM st) (sn:Nat) (hs:sn<=1023):
 Calls prog 99 #[.pointer (some g),sn] w fun e w'=>e= .returned (.int .i64 (lN st.m 1024 sn:Nat))/\Below w w w':=by
 obtain ⟨R,hR⟩:∃R,R=lN st.m 1024 sn:=⟨_,rfl⟩
 rw[<-hR];have HH:=ah h;have HO:=ah ho;have HR:=ah hR;have HST:=ah (ho.stops hs);clear h ho hR;go_enter func99,ntmps99;go_wp2;go_loopg [1] 1024 (fun gk s1 wr=>∃(k j:Nat),s1= .int .i64 (k:Nat)/\k<=1023/\Below w w wr/\R=lN st.m gk k/\j<gk/\dW (st.m ((k+j)%1024))=false)
 case atStart=>
  obtain ⟨j,h1,h2⟩:=HST.out;exact ⟨sn,j,rfl,hs,bS _ w,HR.out,h1,h2⟩
 case round=>
  obtain ⟨k,j,rfl,hk,hb,hr,hj,hst⟩:=hrel;have hA:=HH.out.below hb;have x7:=hA.cells.2.2.1;obtain ⟨v,hl,hc⟩:=hA.af4 HO.out hk;obtain ⟨f,rfl⟩:∃f,gk=f+1:=⟨gk-1,by omega⟩
  unfold lN at hr;have HC:=ah hc;have HB:=ah hb;cases hcm:dW (st.m k) with
  |true=>
   rw[hcm] at HC;rw[hcm,bD rfl] at hr;have hj0:j≠0:=fun e=>by
    rw[e,uf,ID (by omega),hcm] at hst;cases hst
   have M0:dW (st.m ((eD k+(j-1))%1024))=false:=by
    unfold eD;rw[show ((k+1)%1024+(j-1))%1024=(k+j)%1024 by omega];exact hst
   have hand:bits BinOp.and IntKind.i64 ((k:Int)+1) 1023=((eD k:Nat):Int):=by rw[wK];unfold eD;omega
   have hup:eD k<=1023:=by unfold eD;omega
   have HRR:=ah hr;have HS2:=ah M0;have HJ:=ah hj;have HJ0:=ah hj0;clear hA hc hb hr hst M0 hcm hj hj0;generalize eD k=q at*;go_wp2_with fail;refine HC.out.mono ?_;rintro e1 w1 ⟨rfl,hb1⟩;go_wp2
   go_roundg f
   case measure=>omega
   case rel=>exact ⟨q,j-1,rfl,hup,HB.out.trans (hb1.mono HB.out.size),HRR.out,by have:=HJ.out;have:=HJ0.out;omega,HS2.out⟩
  |false=>
   rw[hcm] at HC;rw[hcm,aP (by simp)] at hr;have HRR:=ah hr;clear hA hc hb hr hst hcm hj;go_wp2_with fail;refine HC.out.mono ?_;rintro e1 w1 ⟨rfl,hb1⟩;go_wp2;go_ret;exact ⟨by rw[HRR.out];rfl,HB.out.trans (hb1.mono HB.out.size)⟩
theorem wL {w w':World} {T:Nat->Nat} (h:Below w w w'):Kept (MT T) w w':=(Kept.of_below h).iI fun k o ho hm=>by have:=lt_of_heap ho;omega
theorem FO (h:jo w T g M n c st vo) (ho:fM st) (_hc1:0<=c.reorder) (_hc2:c.reorder<=9223372036854775807):
 Calls prog 101 #[.pointer (some g)] w fun e w'=>e= .returned (.tuple #[])/\jo w' T g M n c (jO c st) vo/\Kept (MT T) w w':=by
 obtain ⟨x3,x4,x7,x8,x9,x10,Cb,MC,Xh,Js,Yz,Xi,U3,x18⟩:=h.cells;have f11:=h.blk.frozen 11;have f12:=h.blk.frozen 12;have f13:=h.blk.frozen 13;have hn1:=ho.t1;have hn2:=ho.t2;have HH:=ah h;clear h ho x4 x7 x8 x9 Js Yz U3 x18;go_enter func101,ntmps101;go_wp2_with fail
 go_region
 all_goals
  go_wp2_with fail
  go_end0
  have h1:=HH.out.put 11 (.bool true) (st':= {st with ro:=true}) rfl rfl rfl;have h2:=h1.put 12 (.int .i64 (st.high:Nat)) (st':= {st with ro:=true,gW:=st.high}) rfl rfl rfl;have h3:=h2.put 13 (.int .i64 (IntKind.i64.wrap (st.now+c.reorder))) (st':= {st with ro:=true,gW:=st.high,exp:=IntKind.i64.wrap (st.now+c.reorder)}) rfl rfl rfl;rw[show wrap64 (st.now+c.reorder)=IntKind.i64.wrap (st.now+c.reorder) by rw[vk];unfold wrap64;rfl];have ht:∀o:Obj,MT T g o:=fun o=>by unfold MT;rw[HH.out.tg];omega
  exact ⟨rfl,h3.drew,(((Kept.refl _ w).setCell (p:=⟨g,11,none⟩) (fun o _=>ht o) _).setCell (p:=⟨g,12,none⟩) (fun o _=>ht o) _).setCell (p:=⟨g,13,none⟩) (fun o _=>ht o) _ |>.drew⟩
end
section
variable {w w':World} {A:Option Addr} {n c:Nat} {l:List Fl}
theorem Sf (f:Fl) (w:World):Calls prog 154 #[.agg #[.bool f.1,.bool f.2.1,.bool f.2.2]] w fun e w'=>e= .returned (.bool f.1)/\Below w w w':=by
 have hb:=av.new w 174 #[.bool f.1,.bool f.2.1,.bool f.2.2];have c0:=hb.cell 0;simp at c0;clear hb;go_enter func154,ntmps154;go_wp2;go_ret;exact ⟨rfl,(bS _ w).alloc (aL) _⟩
theorem U4 (h:qV w A n c l) (hn:n<=100000):
 Calls prog 153 #[.slice A n c,.func (.func 154) #[] #[]] w fun e w'=>e= .returned (.bool (l.any (fun f=>f.1)))/\Below w w w':=by
 have key:Calls prog 196 #[.slice A n c,.func (.func 154) #[] #[]] w fun e w'=>(∃i:Int,e= .returned (.int .i64 i)/\(decide (i≥0))=l.any (fun f=>f.1))/\Below w w w':=by
  have hcap:=h.cap;have hmx:=h.mx;have HH:=ah h;have hlen:=h.len;clear h;go_enter func196,ntmps196;go_wp2
  go_loopw [8] (fun i wr=>∃k:Nat,k<=n/\i= .int .i64 k/\(l.take k).any (fun f=>f.1)=false/\Below w w wr) (fun i _=>n-(intOf i).toNat)
  case atStart=>exact ⟨0,eH _,rfl,by simp,bS _ w⟩
  case round=>
   obtain ⟨k,hk,rfl,hno,hb⟩:=hrel;by_cases hlt:k<n
   ·obtain ⟨g,o,rfl,hg,hc⟩:=(HH.out.below hb).at_ (by omega);obtain ⟨f,hf⟩:∃f,l[k]? =some f:=⟨_,gX (by omega)⟩
    obtain ⟨k0,k1,k2⟩:=hc k f hf;have hcl:=Sf f wr;have hst:(l.take (k+1)).any (fun f=>f.1)=f.1:=by rw[pX,hf,List.any_append,hno];simp
    have hall:f.1=true->l.any (fun f=>f.1)=true:=fun e=>Eu.2 ⟨f,iT hf,e⟩
    have HST:=ah hst;have qM:=ah hall;have HB:=ah hb;have yB:=ah hcl;obtain ⟨fg,fs,fe⟩:=f;dsimp only at k0 k1 k2 HST qM yB;clear hc hf hno hst hall hb hcl;cases fg with
    |true=>
     go_wp2_with fail;refine yB.out.mono ?_;rintro e1 w1 ⟨rfl,hb1⟩;go_wp2;go_ret;exact ⟨⟨k,rfl,by rw[qM.out trivial];simp⟩,HB.out.trans (hb1.mono HB.out.size)⟩
    |false=>
     go_wp2_with fail;refine yB.out.mono ?_;rintro e1 w1 ⟨rfl,hb1⟩;go_wp2
     go_round
     case rel=>exact ⟨k+1,by omega,by go_num,HST.out,HB.out.trans (hb1.mono HB.out.size)⟩
     case measure=>simp[intOf];omega
   ·have e:l.take k=l:=kI (by omega);rw[e] at hno;have HN:=ah hno;have HB:=ah hb;clear e hno hb;go_wp2;go_ret;exact ⟨⟨-1,rfl,by rw[HN.out];rfl⟩,HB.out⟩
 have HK:=ah key;have hcap:=h.cap;have hmx:=h.mx;clear key h;go_enter func153,ntmps153;go_wp2_with fail;refine HK.out.mono ?_;rintro e1 w1 ⟨⟨i,rfl,hi⟩,hb1⟩;have HI:=ah hi;clear hi;go_wp2;go_ret;exact ⟨by rw[<-HI.out];rfl,hb1⟩
end
section
variable {P:Program} {ops:Array Oper} {Q:Exit->Act->World->Prop} {n l:Nat}
theorem yU {id:Nat} {a:Act} {w:World} (S:World->Prop) (L:List Nat) (hm:P.follows .mixedOrders=true) (hd:ops.toList.all rq=true) (hout:¬LetsOut Q)
 (h:dP P .any ops Q S L ops.size (Array.replicate ops.size false) a w.drew):(Code.region id ops true).wpIn (Fence.wide.inRound l) n P Q a w:=
 wpIn_region_any hm (jX hd hout _ _ _ _ (yR _ _ _ _ h))
end
section
variable {P:Program}
theorem bR {id m lr:Nat} {Q:Exit->Act->World->Prop} {a:Act} {w:World} {l:List Oper} (n:Nat) (hm:P.follows .mixedOrders=true) (hd:l.toArray.toList.all rq=true) (hout:¬LetsOut Q) (hB:Region.lexTailB .any l.toArray n=true)
 (h:wpStill P l.toArray {w with drawn:=w.drawn+1} (fun a'=>wpList P l.toArray Q (l.drop n) a' {w with drawn:=w.drawn+1}) (l.take n) a):(Code.region id l.toArray true).wpIn (Fence.wide.inRound lr) m P Q a w:=by
 simp only[Region.lexTailB,gD,gY] at hB;obtain ⟨⟨⟨⟨hsel,hn⟩,hs⟩,hc⟩,hlex⟩:=hB;have hn':n<l.length:=by simpa using hn
 have htl:(l.take n).length=n:=by simp;omega
 have hdl:(l.drop n).length=l.toArray.size-n:=by simp
 have inv0:HeadInv .any l.toArray n (Array.replicate l.toArray.size false):=
  ⟨by simp,fun j oj _ hl=>(by rw[getD_replicate_false] at hl;cases hl),fun t _ ht=>getD_in (by simpa using ht) (getD_replicate_false _ _)⟩
 have H:=wpAnyL_lex (md:= .any) (g:=l.toArray.size-n) hsel hs hc hn (l.take n) 0 _ a (fun j hj=>by
  have hj':j<n:=by rw[htl] at hj;exact hj
  simp[hj']) (by simpa using htl) inv0 (by rw[htl];exact hlex) h
 refine wpIn_region_any hm (jX hd hout _ _ _ _ ?_);have:=wpAny_of_head (Q':=Q) (g:=l.toArray.size-n) (fun listed a' hL=>by
  have:=wpAny_of_seq (md:= .any) (Q':=Q) (l.drop n) n listed a' {w with drawn:=w.drawn+1} (fun j=>by simp[List.getElem?_drop]) (by rw[hdl];exact hL.1) hL.2
  rwa [hdl] at this) _ _ _ H
 rw[htl,show n+(l.toArray.size-n)=l.toArray.size by omega] at this;exact this
end
theorem AZ {W:World} {base size n:Nat} {e:TypeId} {v:Value} {xs:List Value} (h:W.ownsRow base e size v n xs) (hn:0<n):∃g cap,v= .slice (some ⟨g,0,none⟩) n cap/\n<=cap/\cap<=9223372036854775807/\g<W.heap.size:=by
 rcases h.2 with ⟨_,h0⟩|⟨g,cap,cur,rfl,_,hg,h1,h2,_⟩
 ·omega
 ·exact ⟨g,cap,rfl,h1,by unfold maxLen at h2;omega,lt_of_heap hg⟩
theorem De (s e:Bool) (n:Nat):∀(a:List (List UInt8)) (i:Nat) (p:List UInt8),eG s e n i (a++ [p])=eG s e n i a++lQ p (decide (0<i+a.length)||s) (decide (i+a.length+1<n)||e)
 | [],i,p=>by simp[eG]
 |q::r,i,p=>by
  rw[qJ,eG,eG,De s e n r (i+1) p,oJ,jh];rw[show i+1+r.length=i+(r.length+1) by omega]
theorem M3 {s e:Bool} {n:Nat} {ps:List (List UInt8)} {k:Nat} {p:List UInt8} (h:ps[k]? =some p):eG s e n 0 (ps.take (k+1))=eG s e n 0 (ps.take k)++lQ p (decide (0<k)||s) (decide (k+1<n)||e):=by
 have hk:=(pN.1 h).1;rw[pX,h];simp only[Option.toList];rw[De,kz,Nat.min_eq_left (by omega),jA]
theorem U5 (l:List (Fl × UInt8)) (f:Fl) (b:UInt8) (a:Nat) (x:List Fl × List UInt8):
 DY (l++ [(f,b)]) a x=if (dZ (DY l a x).1 (a+l.length)).1=true then DY l a x else ((DY l a x).1.set (a+l.length) f,(DY l a x).2.set (a+l.length) b):=by
 rw[Kq];rfl
def Xj (s e:Bool) (off:Nat) (ps:List (List UInt8)) (x0:List Fl × List UInt8) (k:Nat):List Fl × List UInt8:=DY (eG s e ps.length 0 (ps.take k)) off x0
def GN (s e:Bool) (off:Nat) (ps:List (List UInt8)) (x0:List Fl × List UInt8) (k j:Nat):List Fl × List UInt8:=
 DY ((lQ (ps[k]?.getD []) (decide (0<k)||s) (decide (k+1<ps.length)||e)).take j) (off+aj (ps.take k)) (Xj s e off ps x0 k)
section
variable {s e:Bool} {off:Nat} {ps:List (List UInt8)} {x0:List Fl × List UInt8} {k:Nat}
theorem U6:GN s e off ps x0 k 0=Xj s e off ps x0 k:=by
 unfold GN;rw[nu];rfl
theorem U7 (hk:k<ps.length):GN s e off ps x0 k (ps[k]?.getD []).length=Xj s e off ps x0 (k+1):=by
 have hp:ps[k]? =some ps[k]:=gX hk;unfold GN Xj;rw[M3 (n:=ps.length) hp,Kq,lq,hp,Cy,kI (by rw[fT];exact aL)]
theorem YA (j:Nat):(GN s e off ps x0 k j).1.length=x0.1.length/\(GN s e off ps x0 k j).2.length=x0.2.length:=by
 unfold GN Xj;have h1:=pJ (eG s e ps.length 0 (ps.take k)) off x0;have h2:=pJ ((lQ (ps[k]?.getD []) (decide (0<k)||s) (decide (k+1<ps.length)||e)).take j) (off+aj (ps.take k)) (DY (eG s e ps.length 0 (ps.take k)) off x0);exact ⟨h2.1.trans h1.1,h2.2.trans h1.2⟩
theorem U9 {j:Nat} (hj:j<(ps[k]?.getD []).length):GN s e off ps x0 k (j+1)=
 if (dZ (GN s e off ps x0 k j).1 (off+aj (ps.take k)+j)).1=true then GN s e off ps x0 k j
 else ((GN s e off ps x0 k j).1.set (off+aj (ps.take k)+j) (true,decide (j=0)&&(decide (0<k)||s),decide (j+1=(ps[k]?.getD []).length)&&(decide (k+1<ps.length)||e)),
  (GN s e off ps x0 k j).2.set (off+aj (ps.take k)+j) ((ps[k]?.getD [])[j]?.getD 0)):=by
 unfold GN;generalize ps[k]?.getD []=p at*;have hg:(lQ p (decide (0<k)||s) (decide (k+1<ps.length)||e))[j]? =some ((true,decide (j=0)&&(decide (0<k)||s),decide (j+1=p.length)&&(decide (k+1<ps.length)||e)),p[j]?.getD 0):=by
  rw[sP,gX hj];rfl
 rw[pX,hg];simp only[Option.toList];rw[U5,kz,fT,Nat.min_eq_left (by omega)]
end
def TkM (b:Nat) (vf vd:Value) (k:Nat) (_:Obj):Prop:=k=b\/vf.ownBlock=some k\/vd.ownBlock=some k
structure vH (w:World) (b:Nat) (vf vd:Value) (xc:Array Value) (sz:Int) (oP oG:Value) (fl:List Fl) (da:List UInt8) (W:World):Prop where
 blk:av W b 165 #[oP,oG,sz]
 fr:W.ownsRow 0 174 3 oP fl.length (Bu fl)
 dr:W.ownsRow 0 5 1 oG da.length (dz da)
 bf:∀k,oP.ownBlock=some k->vf.ownBlock=some k\/w.heap.size<=k
 bd:∀k,oG.ownBlock=some k->vd.ownBlock=some k\/w.heap.size<=k
 kp:Kept (TkM b vf vd) w W
 bp:av W w 161 #[.pointer (some b)]
 bx:av W (w+1) 148 xc
 hb:b<w.heap.size
section
variable {w W W':World} {b:Nat} {vf vd oP oG:Value} {xc:Array Value} {sz:Int} {fl:List Fl} {da:List UInt8}
theorem vH.below (h:vH w b vf vd xc sz oP oG fl da W) (hb:Below W W W'):vH w b vf vd xc sz oP oG fl da W':=
 ⟨h.blk.below hb h.blk.lt,dw h.fr fun k hk=>hb.block k (h.fr.lt k hk).2,dw h.dr fun k hk=>hb.block k (h.dr.lt k hk).2,h.bf,h.bd,h.kp.trans ((Kept.of_below hb).iI fun k o ho hm=>by have:=lt_of_heap ho;omega),h.bp.below hb h.bp.lt,h.bx.below hb h.bx.lt,h.hb⟩
theorem vH.drew (h:vH w b vf vd xc sz oP oG fl da W):vH w b vf vd xc sz oP oG fl da W.drew:=h.below (bS _ W).drew
theorem vH.alloc (h:vH w b vf vd xc sz oP oG fl da W) (o:Obj):vH w b vf vd xc sz oP oG fl da (W.alloc o):=h.below ((bS _ W).alloc (aL) o)
theorem mP {base size n g:Nat} {e t:TypeId} {v:Value} {xs:List Value} {cs:Array Value} (h:W.ownsRow base e size v n xs) (hg:av W g t cs) (hne:e≠t):some g≠v.ownBlock:=fun e'=>aK h hg hne e'.symm
theorem xD {b1 b2 s1 s2 n1 n2:Nat} {e1 e2:TypeId} {v1 v2:Value} {x1 x2:List Value} (h1:W.ownsRow b1 e1 s1 v1 n1 x1) (h2:W.ownsRow b2 e2 s2 v2 n2 x2) (hne:e1≠e2):v1.ownBlock=none\/v1.ownBlock≠v2.ownBlock:=by
 cases hv:v1.ownBlock with
 |none=>exact .inl rfl
 |some k=>
  refine .inr fun e=> ?_
  obtain ⟨o1,a1,⟨c1,f1,rfl⟩,_⟩:=dR h1 hv;obtain ⟨o2,a2,⟨c2,f2,e2⟩,_⟩:=dR h2 e.symm;rw[a1] at a2;cases a2;cases e2;exact hne rfl
theorem iF {base size n g i:Nat} {e t:TypeId} {v:Value} {xs:List Value} {cs:Array Value} (h:W.ownsRow base e size v n xs) (hb:av W g t cs) (hne:e≠t) (u:Value):(W.setCell ⟨g,i,none⟩ u).ownsRow base e size v n xs:=
 dw h fun k hk=>lZ W ⟨g,i,none⟩ u k (fun ek=>by
  have e2:k=g:=ek;subst e2;exact aK h hb hne hk)
theorem vH.flags (h:vH w b vf vd xc sz oP oG fl da W) {v2:Value} {fl2:List Fl} (hr:W'.ownsRow 0 174 3 v2 fl2.length (Bu fl2)) (hg:W.grownBy W' oP.ownBlock) (hv:v2.ownBlock=oP.ownBlock\/v2.ownBlock=some W.heap.size):
 vH w b vf vd xc sz v2 oG fl2 da (W'.setCell b v2):=by
 have hbW:=h.blk.grown hg (mP h.fr h.blk (by decide));have hsz:=h.kp.size;have hk2:Kept (TkM b vf vd) w W':=h.kp.grown hg fun k e o ho=>by
  rcases h.bf k e with e2|e2
  ·exact .inr (.inl e2)
  ·have:=lt_of_heap ho;omega
 refine ⟨by simpa using hbW.ay 0 v2,?_,?_,fun k e=> ?_,h.bd,hk2.setCell (p:=⟨b,0,none⟩) (fun _ _=> .inl rfl) _,?_,?_,h.hb⟩
 ·exact iF (i:=0) hr hbW (by decide) _
 ·exact aN (i:=0) (h.dr.kept hg (xD h.dr h.fr (by decide))) hbW (by decide) _
 ·rcases hv with e2|e2
  ·exact h.bf k (e2 ▸ e)
  ·rw[e2] at e;cases e;exact .inr hsz
 ·exact (h.bp.grown hg (mP h.fr h.bp (by decide))).far (by have:=h.hb;simp;omega) _
 ·exact (h.bx.grown hg (mP h.fr h.bx (by decide))).far (by have:=h.hb;simp;omega) _
theorem vH.data (h:vH w b vf vd xc sz oP oG fl da W) {v2:Value} {da2:List UInt8} (hr:W'.ownsRow 0 5 1 v2 da2.length (dz da2)) (hg:W.grownBy W' oG.ownBlock) (hv:v2.ownBlock=oG.ownBlock\/v2.ownBlock=some W.heap.size):
 vH w b vf vd xc sz oP v2 fl da2 (W'.setCell ⟨b,1,none⟩ v2):=by
 have hbW:=h.blk.grown hg (mP h.dr h.blk (by decide));have hsz:=h.kp.size;have hk2:Kept (TkM b vf vd) w W':=h.kp.grown hg fun k e o ho=>by
  rcases h.bd k e with e2|e2
  ·exact .inr (.inr e2)
  ·have:=lt_of_heap ho;omega
 refine ⟨by simpa using hbW.ay 1 v2,?_,?_,h.bf,fun k e=> ?_,hk2.setCell (p:=⟨b,1,none⟩) (fun _ _=> .inl rfl) _,?_,?_,h.hb⟩
 ·exact iF (i:=1) (h.fr.kept hg (xD h.fr h.dr (by decide))) hbW (by decide) _
 ·exact aN (i:=1) hr hbW (by decide) _
 ·rcases hv with e2|e2
  ·exact h.bd k (e2 ▸ e)
  ·rw[e2] at e;cases e;exact .inr hsz
 ·exact (h.bp.grown hg (mP h.dr h.bp (by decide))).far (by have:=h.hb;simp;omega) _
 ·exact (h.bx.grown hg (mP h.dr h.bx (by decide))).far (by have:=h.hb;simp;omega) _
end
section
variable {w W W':World} {b:Nat} {vf vd oP oG:Value} {xc:Array Value} {sz:Int} {fl:List Fl} {da:List UInt8}
theorem FP {base size n:Nat} {e:TypeId} {v:Value} {xs:List Value} {row:Option Nat} (h:W.ownsRow base e size v n xs) (hg:W.grownBy W' row) (hr:∀r,row=some r->∃o:Obj,W.heap[r]? =some o/\o.isCells=false):W'.ownsRow base e size v n xs:=by
 refine h.kept hg ?_;cases hv:v.ownBlock with
 |none=>exact .inl rfl
 |some k=>
  refine .inr fun e2=> ?_
  obtain ⟨o,ho,hc⟩:=hr k e2.symm;obtain ⟨o2,ho2,⟨c1,f1,rfl⟩,_⟩:=dR h hv;rw[ho2] at ho;cases ho;cases hc
theorem vH.quiet (h:vH w b vf vd xc sz oP oG fl da W) {row:Option Nat} (hg:W.grownBy W' row) (hr:∀r,row=some r->w.heap.size<=r/\∃o:Obj,W.heap[r]? =some o/\o.isCells=false):vH w b vf vd xc sz oP oG fl da W':=
 have hr':=fun r e=>(hr r e).2
 ⟨gM h.blk hg hr',FP h.fr hg hr',FP h.dr hg hr',h.bf,h.bd,h.kp.grown hg (fun k e o ho=>by have:=lt_of_heap ho;have:=(hr k e).1;omega),gM h.bp hg hr',gM h.bx hg hr',h.hb⟩
theorem vH.ab9 {gd n cd at_:Nat} (h:vH w b vf vd xc sz oP (.slice (some ⟨gd,0,none⟩) n cd) fl da W) (hn:da.length=n) (x:UInt8):vH w b vf vd xc sz oP (.slice (some ⟨gd,0,none⟩) n cd) fl (da.set at_ x) (W.setCell ⟨gd,at_,none⟩ (bv x)):=by
 subst hn;have hg:=aR W gd at_ (bv x);have hd:=h.dr;have hr:=(hd.stored at_ (bv x)).1;have hne:∀{g:Nat} {t:TypeId} {cs:Array Value},av W g t cs->5≠t->some g≠some gd:=fun hb hne=>mP hd hb hne
 refine ⟨h.blk.grown hg (hne h.blk (by decide)),h.fr.kept hg (xD h.fr hd (by decide)),?_,h.bf,h.bd,h.kp.grown hg (fun k e o ho=> ?_),h.bp.grown hg (hne h.bp (by decide)),h.bx.grown hg (hne h.bx (by decide)),h.hb⟩
 ·have e:dz (da.set at_ x)=(dz da).set at_ (bv x):=by simp[dz,List.map_set]
  rw[e,Dr];exact hr
 ·cases e;rcases h.bd gd rfl with e2|e2
  ·exact .inr (.inr e2)
  ·have:=lt_of_heap ho;omega
theorem vH.FQ {gf n cf at_:Nat} (h:vH w b vf vd xc sz (.slice (some ⟨gf,0,none⟩) n cf) oG fl da W) (hn:fl.length=n) (hat:at_<n) (f:Fl):
 vH w b vf vd xc sz (.slice (some ⟨gf,0,none⟩) n cf) oG (fl.set at_ f) da (((W.setCell ⟨gf,at_*3,none⟩ (.bool f.1)).setCell ⟨gf,at_*3+1,none⟩ (.bool f.2.1)).setCell ⟨gf,at_*3+2,none⟩ (.bool f.2.2)):=by
 subst hn;have hd:=h.fr;have hr1:=(hd.stored (at_*3) (.bool f.1)).1;have hr2:=(hr1.stored (at_*3+1) (.bool f.2.1)).1;have hr3:=(hr2.stored (at_*3+2) (.bool f.2.2)).1;have hg:W.grownBy (((W.setCell ⟨gf,at_*3,none⟩ (.bool f.1)).setCell ⟨gf,at_*3+1,none⟩ (.bool f.2.1)).setCell ⟨gf,at_*3+2,none⟩ (.bool f.2.2)) (some gf):=
  ((aR W gf _ _).trans (aR _ gf _ _)).trans (aR _ gf _ _)
 have hne:∀{g:Nat} {t:TypeId} {cs:Array Value},av W g t cs->174≠t->some g≠some gf:=fun hb hne=>mP hd hb hne
 refine ⟨h.blk.grown hg (hne h.blk (by decide)),?_,h.dr.kept hg (xD h.dr hd (by decide)),h.bf,h.bd,h.kp.grown hg (fun k e o ho=> ?_),h.bp.grown hg (hne h.bp (by decide)),h.bx.grown hg (hne h.bx (by decide)),h.hb⟩
 ·rw[QZ _ _ _ hat] at hr3;rw[Dr];exact hr3
 ·cases e;rcases h.bf gf rfl with e2|e2
  ·exact .inr (.inl e2)
  ·have:=lt_of_heap ho;omega
end
section
variable {w W W':World} {b:Nat} {vf vd oP oG:Value} {xc:Array Value} {sz:Int} {fl:List Fl} {da:List UInt8}
theorem vH.af6 (h:vH w b vf vd xc sz oP oG fl da W) {D:Nat} {o:Obj} (o':Obj) (hD:W.heap[D]? =some o) (hc:o.isCells=false) (hDl:w.heap.size<=D):vH w b vf vd xc sz oP oG fl da (W.putObj D o'):=
 h.quiet (nX W D o') (fun r e=>by cases e;exact ⟨hDl,o,hD,hc⟩)
theorem vH.akX (h:vH w b vf vd xc sz oP oG fl da W) (z:Int):vH w b vf vd xc z oP oG fl da (W.setCell ⟨b,2,none⟩ z):=
 ⟨by simpa using h.blk.ay 2 z,iF h.fr h.blk (by decide) _,iF h.dr h.blk (by decide) _,h.bf,h.bd,h.kp.setCell (p:=⟨b,2,none⟩) (fun _ _=> .inl rfl) _,h.bp.far (by have:=h.hb;simp;omega) _,h.bx.far (by have:=h.hb;simp;omega) _,h.hb⟩
end
def YB (b:Nat) (vf vd:Value) (bi Z:Nat) (j:Nat) (_:Obj):Prop:=j=b\/vf.ownBlock=some j\/vd.ownBlock=some j\/j=bi\/Z<=j
structure TkI (w:World) (b:Nat) (vf vd:Value) (xc:Array Value) (sz:Int) (LJ LK:Value) (s e:Bool) (off:Nat) (ps:List (List UInt8)) (x0:List Fl × List UInt8) (bi:Nat) (w5:World) (k:Nat) (W:World):Prop where
 t:vH w b vf vd xc sz LJ LK (Xj s e off ps x0 k).1 (Xj s e off ps x0 k).2 W
 di:av W bi 3 #[k]
 kp:Kept (YB b LJ LK bi w5) w5 W
theorem YC (w:World) (b:Nat) (vf vd:Value) (xc:Array Value) (sz:Int) (LJ LK:Value) (s e:Bool) (off:Nat) (ps:List (List UInt8)) (x0:List Fl × List UInt8) (bi:Nat) (w5:World) (hw:w.heap.size<=w5.heap.size):
 OwnFrom w5 (TkI w b vf vd xc sz LJ LK s e off ps x0 bi w5):=fun k X Y row hs hg hr=>by
 have hr':∀r,row=some r->∃o:Obj,X.heap[r]? =some o/\o.isCells=false:=fun r e=>(hr r e).2
 exact ⟨hs.t.quiet hg fun r e=>⟨by have:=(hr r e).1;omega,(hr r e).2⟩,gM hs.di hg hr',hs.kp.trans ((Kept.refl _ X).grown hg (fun j e _ _=> .inr (.inr (.inr (.inr (hr j e).1)))))⟩
structure M4 (w:World) (b:Nat) (vf vd:Value) (xc:Array Value) (sz:Int) (LJ LK:Value) (fl:List Fl) (da:List UInt8) (bi:Nat) (w5 W0:World) (k:Nat) (W:World):Prop where
 t:vH w b vf vd xc sz LJ LK fl da W
 di:av W bi 3 #[k]
 kp:Kept (YB b LJ LK bi w5) w5 W
 k2:Kept (YB b LJ LK bi w5) W0 W
 kf:KeepsFrom w5 W0 W
section
variable {w W W' w5 W0:World} {b:Nat} {vf vd oP oG:Value} {xc:Array Value} {sz:Int} {fl:List Fl} {da:List UInt8} {bi k:Nat}
theorem M4.below (h:M4 w b vf vd xc sz oP oG fl da bi w5 W0 k W) (hb:Below W W W') (_hz:w5.heap.size<=W.heap.size):M4 w b vf vd xc sz oP oG fl da bi w5 W0 k W':=
 have hk:Kept (YB b oP oG bi w5) W W':=(Kept.of_below hb).iI fun k o ho hm=>by have:=lt_of_heap ho;omega
 ⟨h.t.below hb,h.di.below hb h.di.lt,h.kp.trans hk,h.k2.trans hk,h.kf.trans ⟨hb.size,fun k o _ ho _=>(hb.block k (lt_of_heap ho)).trans ho⟩⟩
theorem M4.drew (h:M4 w b vf vd xc sz oP oG fl da bi w5 W0 k W) (hz:w5.heap.size<=W.heap.size):M4 w b vf vd xc sz oP oG fl da bi w5 W0 k W.drew:=h.below (bS _ W).drew hz
theorem M4.ab9 {gd n cd at_:Nat} (h:M4 w b vf vd xc sz oP (.slice (some ⟨gd,0,none⟩) n cd) fl da bi w5 W0 k W) (hn:da.length=n) (x:UInt8):M4 w b vf vd xc sz oP (.slice (some ⟨gd,0,none⟩) n cd) fl (da.set at_ x) bi w5 W0 k (W.setCell ⟨gd,at_,none⟩ (bv x)):=by
 have hk:Kept (YB b oP (.slice (some ⟨gd,0,none⟩) n cd) bi w5) W (W.setCell ⟨gd,at_,none⟩ (bv x)):=(Kept.refl _ W).setCell (p:=⟨gd,at_,none⟩) (fun _ _=> .inr (.inr (.inl rfl))) _;have hd:=h.t.dr;rw[hn] at hd;exact ⟨h.t.ab9 hn x,h.di.grown (aR W gd at_ (bv x)) (mP hd h.di (by decide)),h.kp.trans hk,h.k2.trans hk,h.kf.trans ((zC _ _ _).from _)⟩
theorem M4.FQ {gf n cf at_:Nat} (h:M4 w b vf vd xc sz (.slice (some ⟨gf,0,none⟩) n cf) oG fl da bi w5 W0 k W) (hn:fl.length=n) (hat:at_<n) (f:Fl):
 M4 w b vf vd xc sz (.slice (some ⟨gf,0,none⟩) n cf) oG (fl.set at_ f) da bi w5 W0 k (((W.setCell ⟨gf,at_*3,none⟩ (.bool f.1)).setCell ⟨gf,at_*3+1,none⟩ (.bool f.2.1)).setCell ⟨gf,at_*3+2,none⟩ (.bool f.2.2)):=by
 have hM:∀o:Obj,YB b (.slice (some ⟨gf,0,none⟩) n cf) oG bi w5 gf o:=fun _=> .inr (.inl rfl)
 have hk:Kept (YB b (.slice (some ⟨gf,0,none⟩) n cf) oG bi w5) W (((W.setCell ⟨gf,at_*3,none⟩ (.bool f.1)).setCell ⟨gf,at_*3+1,none⟩ (.bool f.2.1)).setCell ⟨gf,at_*3+2,none⟩ (.bool f.2.2)):=
  (((Kept.refl _ W).setCell (p:=⟨gf,_,none⟩) (fun _ _=>hM _) _).setCell (p:=⟨gf,_,none⟩) (fun _ _=>hM _) _).setCell (p:=⟨gf,_,none⟩) (fun _ _=>hM _) _
 have hd:=h.t.fr;rw[hn] at hd;have hg:W.grownBy (((W.setCell ⟨gf,at_*3,none⟩ (.bool f.1)).setCell ⟨gf,at_*3+1,none⟩ (.bool f.2.1)).setCell ⟨gf,at_*3+2,none⟩ (.bool f.2.2)) (some gf):=
  ((aR W gf _ _).trans (aR _ gf _ _)).trans (aR _ gf _ _)
 exact ⟨h.t.FQ hn hat f,h.di.grown hg (mP hd h.di (by decide)),h.kp.trans hk,h.k2.trans hk,h.kf.trans ((((zC _ _ _).from _).trans ((zC _ _ _).from _)).trans ((zC _ _ _).from _))⟩
theorem M4.next (h:M4 w b vf vd xc sz oP oG fl da bi w5 W0 k W) (hbi:b≠bi) (h1:bi≠w) (h2:bi≠w.heap.size+1) (hw:w<=bi):M4 w b vf vd xc sz oP oG fl da bi w5 W0 (k+1) (W.setCell bi (.int .i64 ((k+1:Nat):Int))):=by
 have hk:Kept (YB b oP oG bi w5) W (W.setCell bi (.int .i64 ((k+1:Nat):Int))):=(Kept.refl _ W).setCell (p:=⟨bi,0,none⟩) (fun _ _=> .inr (.inr (.inr (.inl rfl)))) _;refine ⟨⟨h.t.blk.far (by simpa using hbi) _,iF h.t.fr h.di (by decide) _,iF h.t.dr h.di (by decide) _,h.t.bf,h.t.bd,h.t.kp.setCell (p:=⟨bi,0,none⟩) (fun o ho=>by have:=lt_of_heap ho;simp at this;omega) _,h.t.bp.far (by simpa using fun e=>h1 e.symm) _,h.t.bx.far (by simpa using fun e=>h2 e.symm) _,h.t.hb⟩,?_,h.kp.trans hk,h.k2.trans hk,h.kf.trans ((zC _ _ _).from _)⟩;simpa using h.di.ay 0 (.int .i64 ((k+1:Nat):Int))
end
theorem M5 (k:Nat):(Builtin.zeroCells #[.bool false,.bool false,.bool false] k).toList=Bu (List.replicate k fl0):=by
 apply zG;intro j;have hl:(Bu (List.replicate k fl0)).length=k*3:=by rw[Pv,LQ]
 rcases kD j (k*3) with hj|hj
 ·have hr:(List.replicate k fl0)[j/3]? =some fl0:=by rw[List.getElem?_replicate,bD (by omega)]
  obtain ⟨g1,g2,g3⟩:=Eb _ _ _ hr;have hm:j%3=0\/j%3=1\/j%3=2:=by omega
  have he:(Builtin.zeroCells #[.bool false,.bool false,.bool false] k).toList[j]? =some (.bool false):=by
   simp only[Builtin.zeroCells,Array.getElem?_toList,Array.getElem?_map];rw[rH (by simpa using hj)];simp only[Array.getElem_range,G8,vP,jh,gQ];rcases hm with h|h|h<;>simp[h]
  rw[he];rcases hm with h|h|h
  ·rw[show j=j/3*3 by omega,g1];rfl
  ·rw[show j=j/3*3+1 by omega,g2];rfl
  ·rw[show j=j/3*3+2 by omega,g3];rfl
 ·rw[kV (by rw[Array.length_toList,G9];simpa using hj),kV (by omega)]
theorem M6 (k:Nat):(Builtin.zeroCells #[.int .u8 0] k).toList=dz (List.replicate k 0):=by
 apply zG;intro j;rcases kD j k with hj|hj
 ·simp only[Builtin.zeroCells,Array.getElem?_toList,Array.getElem?_map];rw[rH (by simpa using hj)];simp[dz,hj,bv,Nat.mod_one]
 ·rw[kV (by rw[Array.length_toList,G9];simpa using hj),kV (by simpa[dz] using hj)]
theorem YD:(prog.info? 174).map (fun i=>(i.zero,i.size,i.bytes))=some (some (.agg #[.bool false,.bool false,.bool false]),3,3):=by kernel_rfl
theorem Va:∃i,prog.info? 174=some i/\i.zero=some (.agg #[.bool false,.bool false,.bool false])/\i.size=3/\i.bytes=3:=by
 have h:=YD;cases hi:prog.info? 174 with
 |none=>rw[hi] at h;cases h
 |some i=>
  rw[hi] at h;simp only[G8,sj,BA] at h;exact ⟨i,rfl,h.1,h.2.1,h.2.2⟩
theorem Vb:prog.underlying 163=some (.slice 174):=by kernel_rfl
end Go.Proofs.YtbhiklnljiehiaaGreat
