/- law36: AmrecvHolds walked. Arguments opened: a slice of byte slices. -/
import Derived.Test.YtiecgfahidpldaaGreatM3aa
import Derived.Test.YtiecgfahidpldaaGreatM3az
namespace Go.Proofs.YtiecgfahidpldaaGreat
section
open Go.RowKit Go.Shelf
attribute [local go_sem] Oper.semAt_some
def cR:Cf:=⟨0,0,1,2,0,0,1⟩
theorem PE:L5 cR:=⟨by decide,by decide,by decide,by decide⟩
def SG (w1:World) (g M:Nat) (sizes:List UInt8) (aj:List (List UInt8)) (N P gk:Nat) (SH s15:Value) (wr:World):Prop:=
 ∃(i:Nat) (T:Nat→Nat) (n:Nat) (st:Rc) (vo vg:Value) (got:List (List UInt8)),gk=P-i∧i≤P∧n≤i∧s15= .int .i64 (i:Nat)∧vg=SH∧EB w1 g M cR sizes aj N T n st vo vg got [] wr
theorem dG.one {W:World} {T:Nat→Nat} {base:Nat} {v:Value} {outs:List (List UInt8)} {vs:List Value} (h:dG W base T v outs) (hvs:W.ownsRow base 22 1 v outs.length vs):∀u∈vs,u.oneCell'=true:=by
 obtain ⟨us,h1,_,h3⟩:=h;have e1:=zU h1 hvs;subst e1;intro u hu;obtain ⟨i,hi,rfl⟩:=List.getElem_of_mem hu;have hl:i<outs.length:=by have:=h1.1;omega
 obtain ⟨vi,e,ho,_⟩:=h3 i _ (List.getElem?_eq_getElem hl);rw[List.getElem?_eq_getElem hi] at e;rw[Option.some.inj e];obtain ⟨A,c,rfl,_⟩:=aP ho;rfl
theorem oz.start {w1 W W':World} {g M:Nat} {c:Cf} {sizes:List UInt8} {aj:List (List UInt8)} {N:Nat} {T:Nat→Nat} {n:Nat} {st:Rc} {vo vg vr:Value} {got outs:List (List UInt8)} {vals:List Value} (h:EB w1 g M c sizes aj N T n st vo vg got outs W) (hrow:W'.ownsRow w1.heap.size 22 1 vr vals.length vals) (hk:∀k,vr.ownBlock=some k→W.heap.size≤k):oz w1 T vg vr vals W':=
 ⟨hrow,fun k e=>h.rc.zero (hk k e),fun k e e2=>by
  obtain ⟨vs,r,_⟩:=h.gl;have:=(r.lt k e2).2;have:=hk k e;omega⟩
theorem Sl.abn {w:World} {B n c j:Nat} {A:Option Addr} {xs:List Value} (h:Sl w B A n c xs) (hj:j≤n):Sl w B A j c (xs.take j):=by
 refine ⟨by rw[List.length_take,h.len];omega,Nat.le_trans hj h.cap,h.mx,fun h0=> ?_⟩;obtain ⟨ad,e,hb,hc⟩:=h.at_ (by omega);refine ⟨ad,e,hb,fun i u hu=>hc i u ?_⟩;rw[List.getElem?_take] at hu;split at hu
 ·exact hu
 ·cases hu
theorem Sl.abo {w:World} {B n c l:Nat} {ad:Addr} {xs:List Value} (h:Sl w B (some ad) n c xs) (hl:l≤n):Sl w B (if c=l then some ad else some (ad.add l)) (n-l) (c-l) (xs.drop l):=by
 have hcap:=h.cap;have hmx:=h.mx;refine ⟨by rw[List.length_drop,h.len],by omega,by omega,fun h0=> ?_⟩;obtain ⟨wM,e,hb,hc⟩:=h.at_ (by omega);cases e;rw[if_neg (by omega)];refine ⟨_,rfl,by rw[block_add];exact hb,fun i u hu=> ?_⟩;rw[add_add];rw[List.getElem?_drop] at hu;exact hc _ u hu
theorem Sl.WV {w:World} {B n c j:Nat} {ad:Addr} {xs:List Value} (h:Sl w B (some ad) n c xs) (hl:j+1≤n):Sl w B (if c=j+1 then some ad else some {block:=ad.block,off:=ad.off+(j+1),spot:=none}) (n-(j+1)) (c-(j+1)) (xs.drop (j+1)):=by
 have h2:=h.abo hl
 rwa [show ad.add (j+1)= {block:=ad.block,off:=ad.off+(j+1),spot:=none} by simp[Addr.add]] at h2
theorem SI {idx:List Nat} {j k k':Nat} (h:idx[j]? =some k) (hm:k'∈idx):k'=k∨k'∈idx.take j++idx.drop (j+1):=by
 obtain ⟨t,ht,rfl⟩:=List.getElem_of_mem hm;rcases Nat.lt_trichotomy t j with hlt|heq|hgt
 ·refine .inr (List.mem_append.2 (.inl ?_));refine List.mem_iff_getElem?.2 ⟨t,?_⟩;rw[List.getElem?_take,if_pos hlt,List.getElem?_eq_getElem ht]
 ·subst heq;rw[List.getElem?_eq_getElem ht] at h;exact .inl (Option.some.inj h)
 ·refine .inr (List.mem_append.2 (.inr ?_));refine List.mem_iff_getElem?.2 ⟨t-(j+1),?_⟩;rw[List.getElem?_drop,show j+1+(t-(j+1))=t by omega,List.getElem?_eq_getElem ht]
def SK (w1:World) (g M:Nat) (sizes:List UInt8) (aj:List (List UInt8)) (N P:Nat) (f:Nat→Value) (gk:Nat) (SH Uq s19:Value) (wr:World):Prop:=
 ∃(i:Nat) (T:Nat→Nat) (n:Nat) (st:Rc) (vo vg vr:Value) (got:List (List UInt8)) (idx:List Nat),gk=idx.length∧idx.length+i=N∧n≤P+i∧s19= .int .i64 (i:Nat)∧vg=SH∧vr=Uq∧EB w1 g M cR sizes aj N T n st vo vg got [] wr∧
  oz w1 T vg vr (idx.map f) wr∧(∀k∈idx,k<N)∧∀k,k<N→k∈idx∨Has st k
theorem dG.Nh {W:World} {T:Nat→Nat} {base:Nat} {v:Value} {outs:List (List UInt8)} (h:dG W base T v outs):∃A c vs,v= .slice A outs.length c∧gD W W.heap.size A outs.length c vs outs:=by
 obtain ⟨us,h1,_,h3⟩:=h;obtain ⟨A,c,rfl,hs,_⟩:=aP h1;refine ⟨A,c,us,rfl,hs,rfl,fun i p hp=> ?_⟩;obtain ⟨vi,e,ho,_⟩:=h3 i p hp;obtain ⟨Ai,ci,rfl,hsi,_⟩:=aP ho;exact ⟨Ai,ci,e,hsi⟩
theorem dG.zero {W:World} {T:Nat→Nat} {base:Nat} {v:Value} {outs:List (List UInt8)} (h:dG W base T v outs):dG W base (fun _=>0) v outs:=
 let ⟨vs,h1,_,h3⟩:=h
 ⟨vs,h1,fun _ _=>rfl,fun i q hq=>let ⟨vi,e,ho,_⟩:=h3 i q hq;⟨vi,e,ho,fun _ _=>rfl⟩⟩
theorem SL (sizes:List UInt8) (aj:List (List UInt8)) {k i:Nat} (h:i<k):(Mj sizes aj k)[i]? =some (kN sizes aj i):=by simp[Mj,h]
theorem uL {w1:World} {sizes:List UInt8} {aj:List (List UInt8)} {N:Nat} {AL:Option Addr} {cL base:Nat} {Mm:List Value} (_hS:gM sizes aj N) (hL:Sl w1 w1.heap.size AL N cL Mm)
 (hE:∀(i:Nat) (q:List UInt8),(Mj sizes aj N)[i]? =some q→∃vi,Mm[i]? =some vi∧w1.ownsRow base 5 1 vi q.length (cu q)) {j:Nat} (hj:j<N):
 ∃ad Aj cj,AL=some ad∧(ad.add j).block<w1.heap.size∧Mm[j]? =some (.slice Aj (kN sizes aj j).length cj)∧w1.cell? (ad.add j)=some (.slice Aj (kN sizes aj j).length cj)∧Sl w1 w1.heap.size Aj (kN sizes aj j).length cj (cu (kN sizes aj j)):=by
 obtain ⟨ad,e,hb,hc⟩:=hL.at_ (by omega);obtain ⟨vi,e1,ho⟩:=hE j _ (SL sizes aj hj);obtain ⟨Aj,cj,rfl,hs,_⟩:=aP ho;exact ⟨ad,Aj,cj,e,by rw[block_add];exact hb,e1,hc j _ e1,hs⟩
theorem PG (u0 u1 u2 u3 u4 u5 u6 u7 u8 u9:Value) (w:World):(Instr.field 63 (.agg #[u0,u1,u2,u3,u4,u5,u6,u7,u8,u9]) 8).run Tryz.prog w= .ok u8 w:=by kernel_rfl
attribute [local go_sem] PG
set_option maxRecDepth 100000 in
set_option maxHeartbeats 8000000 in
theorem xh (A:Option Addr) (n c:Nat) (vs:List Value) (aj:List (List UInt8)) (B:Option Addr) (m d:Nat) (sizes:List UInt8) (B2:Option Addr) (P d2:Nat) (picks:List UInt8) (B3:Option Addr) (Q d3:Nat) (order:List UInt8) (w:World)
 (h:gD w w.heap.size A n c vs aj) (k:Sl w w.heap.size B m d (cu sizes)) (k2:Sl w w.heap.size B2 P d2 (cu picks)) (k3:Sl w w.heap.size B3 Q d3 (cu order)):
 Calls Tryz.prog 4 #[.slice A n c,.slice B m d,.slice B2 P d2,.slice B3 Q d3] w (Up w):=by
 obtain ⟨j0,hj0,hm0,hm1,hm2⟩:=info_parts lD;have hval:=wH A n c vs aj w h;have hcap:=h.sl.cap;have hmx:=h.sl.mx;have V5:=k.cap;have kmx:=k.mx;have abp:=k2.cap;have agB:=k2.mx;have aje:=k3.cap;have anb:=k3.mx;have hlen:=h.len;have hpl:picks.length=P:=by simpa using k2.len
 have NH:order.length=Q:=by simpa using k3.len
 cases hvb:j5 aj with
 |false=>
  rw[hvb] at hval;clear hpl NH hlen;go_enter Tryz.func4,Tryz.ntmps4;go_wp2_with (first|(go_at_call 17;refine hval.mono ?_;rintro e1 w1 ⟨rfl,rfl⟩)|(go_at_call 7;refine (jw _).mono ?_;rintro e1 w1 ⟨rfl,hb1⟩));go_ret;exact ⟨rfl,hb1⟩
 |true=>
  rw[hvb] at hval;by_cases h60:60<P
  ·have d60:(60:Int)<(P:Int):=by omega
   clear hpl NH hlen;go_enter Tryz.func4,Tryz.ntmps4;go_wp2_with (first|(go_at_call 17;refine hval.mono ?_;rintro e1 w1 ⟨rfl,rfl⟩)|(go_at_call 7;refine (jw _).mono ?_;rintro e1 w1 ⟨rfl,hb1⟩));go_ret;exact ⟨rfl,hb1⟩
  ·have d60:decide ((60:Int)<(P:Int))=false:=decide_eq_false (by omega);obtain ⟨h8,hv⟩:=sj.1 hvb;obtain ⟨N,hS⟩:=zy sizes hvb;have GZ:=zQ A n c vs aj B m d sizes w N h k h8 hS;have hn8:n≤8:=by omega
   have HH:=Lib.hid h;have uW:=Lib.hid k2;have lI:=Lib.hid k3;have HS:=Lib.hid hS;have iM:=Lib.hid hlen;have yF:=Lib.hid hpl;have HQL:=Lib.hid NH;have HSE:=Lib.hid GZ;have hnew:=fun W=>KG hS 0 0 1 2 0 0 1 W (by decide)
   have JQ:=Lib.hid hnew;clear hvb h k k2 k3 hv hlen hpl NH GZ h8 hS hnew;go_enter Tryz.func4,Tryz.ntmps4;go_wp2_with (first
    |(go_at_call 17;refine hval.mono ?_;rintro e1 w1 ⟨rfl,rfl⟩)
    |(go_at_call 18;refine HSE.out.mono ?_;rintro e1 w1 ⟨gs,vl,rfl,hTD,hL⟩;obtain ⟨Mm,G7,_,zV⟩:=id hL;obtain ⟨AL,cL,rfl,zW,_⟩:=aP G7)
    |(go_at_call 19;refine (JQ.out w1).mono ?_;rintro e2 w2 ⟨gr,M,T,rfl,hG,hb2⟩)
    |(go_at_call 11;refine (dQ _ _).mono ?_;rintro e3 w3 ⟨rfl,rfl⟩))
   rw[uJ];rw[uJ] at zW;have hLc:=zW.cap;have hLm:=zW.mx;have HG:=Lib.hid hG;have HL:=Lib.hid hL;have Nt:=Lib.hid zW;have E4:=Lib.hid (fun (i:Nat) (q:List UInt8) (hq:(Mj sizes aj N)[i]? =some q)=>(zV i q hq).imp fun vi hh=>And.intro hh.1 hh.2.1);have GK:=Lib.hid hTD;have agD:=HS.out.le;clear hG hL hval HSE JQ hTD zW zV G7 hb2;go_loopg [14,15] P (fun gk SH s15 wr=>SG w1 gr M sizes aj N P gk SH s15 wr)
   case atStart=>exact ⟨0,T,0,lq,_,_,[],by omega,Nat.zero_le _,Nat.le_refl _,rfl,rfl,HG.out⟩
   case round=>
    obtain ⟨i,T,nn,st,vo,vg,got,uQ,hiP,hnn,rfl,rfl,hG2⟩:=hrel;have KA:=Lib.hid uQ;have ru:=Lib.hid hG2;clear uQ hG2 HG;by_cases hlt:i<P∧0<N
    ·obtain ⟨hlt,hN0⟩:=hlt;obtain ⟨x,hx⟩:∃x,(picks[i]?.getD 0).toNat=x:=⟨_,rfl⟩
     obtain ⟨j,hj⟩:∃j,x%N=j:=⟨_,rfl⟩
     have qb:j<N:=by rw[←hj];exact Nat.mod_lt _ hN0
     obtain ⟨ad,Aj,cj,rfl,hlb,_,hlc,hls⟩:=uL HS.out Nt.out E4.out qb;have hdc:=kP HS.out.hs HS.out.le HS.out.ne j qb;have hel:=qO HS.out qb;have T0:=gU HS.out.hs HS.out.le HS.out.ne;have hpi:=si (sizes:=sizes) (aj:=aj) j (T0.size_pos qb);have hbW:=GK.out.eH.trans (ru.out.eH.mono GK.out.eH.size);obtain ⟨bd,rfl,hbb,hbc⟩:=(uW.out.below hbW).at_ (by omega);have hpc:wr.cell? (bd.add i)=some (.int .u8 (x:Nat)):=hbc i _ (by
      unfold cu;rw[List.getElem?_map,List.getElem?_eq_getElem (by rw[yF.out];exact hlt),←hx,List.getElem?_eq_getElem (by rw[yF.out];exact hlt)];rfl)
     have hx256:x<256:=by rw[←hx];exact (picks[i]?.getD 0).toNat_lt
     have abt:wr.cell? (ad.add j)=some (.slice Aj (kN sizes aj j).length cj):=(ru.out.eH.cell hlb).trans hlc;have hrc:=ru.out.recv HS.out PE (by unfold maxLen;omega) (i:Int) (by omega) qb hpi hdc.2 Aj _ cj (fun W2 hk=>JP hls ru.out.eH ru.out.tb hk) (by omega);have hsl1:=hls.cap;have hsl2:=hls.mx;have Ij:=Lib.hid hrc;have HJ:=Lib.hid hj;have hmod:(x:Int)%(N:Int)=(j:Int):=by rw[←hj];rfl
     have hjI:(j:Int)<(N:Int):=by omega
     clear hrc hls hlc hdc hel T0 hpi hbW hbc hx hj;generalize kN sizes aj j=E at*;go_wp2_with fail;refine Ij.out.mono ?_;rintro e5 w5 ⟨T5,Ik,v5,n5,rfl,hH,uf,hn5,Aw,Km,hhas,_⟩;obtain ⟨R,hR⟩:∃R,bX cR st (i:Int) E=R:=⟨_,rfl⟩
     rw[hR] at hH uf;have G8:=EB.len HS.out hH;obtain ⟨vgs,hvg,_,_⟩:=id hH.gl;obtain ⟨vos,nE,_,_⟩:=id uf;have G9:=uf.one nE;obtain ⟨A5,c5,rfl,hs5,_⟩:=aP nE;have agF:=hs5.cap;have agG:=hs5.mx;have yQ:=hH.eH.size;have WW:=ru.out.eH.size;have HH5:=Lib.hid hH;have Pb:=Lib.hid uf;have abv:=Lib.hid G8;have PI:=Lib.hid hvg;have WX:=Lib.hid nE;have Qh:=Lib.hid hs5;have abw:=Lib.hid G9;have WY:got.length+R.2.1.length≤8:=by have:=iM.out;omega
     clear hH uf G8 hhas Aw Km Ij ru hpc hR abt;go_upto_region 14 with (go_at_call 11;refine (dQ _ _).mono ?_;rintro e3 w3 ⟨rfl,rfl⟩)
     go_wp2_with (first
      |(at_builtin;refine dM _ rfl (.tmp 85) (.tmp 86) 34 rfl w1.heap.size 22 j0 (.slice none 0 0) 24 und22 hj0 hm0 hm1 hm2 rfl _ got.length vgs rfl PI.out _ A5 R.2.1.length c5 vos rfl Qh.out abw.out ?c1 ?c2 ?c3 ?_))
     case c1=>unfold maxLen;omega
     case c2=>omega
     case c3=>exact yQ
     intro v6 w6 hown6 jg hb6;have hH6:=HH5.out.app Pb.out WW PI.out WX.out hown6 jg hb6;have X4:=Lib.hid hH6;clear hH6 hown6 jg hb6 hvg nE hs5 G9;go_wp2
     go_roundg (P-(i+1))
     case measure=>rw[KA.out];omega
     case rel=>exact ⟨i+1,T5,n5,R.1,Ik,_,got++R.2.1,rfl,by omega,by omega,by go_num,rfl,X4.out⟩
    ·go_upto_region 9 with (fail)
     go_cut [62] (fun s62 wx=>s62= .bool false∧wx=wr)
     case first=>
      by_cases hlt:i<P
      ·have hN0:N=0:=by omega
       subst hN0;go_wp2_with fail;go_meet;exact ⟨rfl,rfl⟩
      ·have hlt':decide ((i:Int)<(P:Int))=false:=decide_eq_false (by omega);go_wp2_with fail;go_meet;exact ⟨rfl,rfl⟩
     case rest=>
      obtain ⟨rfl,rfl⟩:=hcut;clear hlt;have hvl:Mm.length=N:=Nt.out.len;have hlit:=Nt.out.below (ru.out.eH.alloc ru.out.eH.size (.cells #[] 22));have Ur:∀u∈Mm,u.oneCell'=true:=fun u hu=>by
       obtain ⟨k,hk,rfl⟩:=List.getElem_of_mem hu;obtain ⟨_,Aj,cj,WZ,_,e,_⟩:=uL HS.out Nt.out E4.out (j:=k) (by omega);rw[List.getElem?_eq_getElem hk] at e;rw[Option.some.inj e];rfl
      have hz:=ru.out.eH.size;have HVL:=Lib.hid hvl;have PK:=Lib.hid hlit;have Us:=Lib.hid Ur;clear hvl hlit Ur;go_upto_region 16 with (at_builtin;refine dM _ rfl (.tmp 88) (.tmp 89) 34 rfl w1.heap.size 22 j0 (.slice none 0 0) 24 und22 hj0 hm0 hm1 hm2 rfl (.slice (some ⟨wc.heap.size,0,none⟩) 0 0) 0 [] rfl ?c0 _ AL N cL Mm rfl PK.out Us.out ?c1 ?c2 ?c3 ?_)
      case c0=>exact World.ownsRow_lit wc #[] 0 hz (by unfold maxLen;omega) rfl
      case c1=>unfold maxLen;omega
      case c2=>omega
      case c3=>simp;omega
      intro v7 w7 lg fP nV;have II:Below wc.heap.size wc w7:=((Below.refl _ wc).alloc (Nat.le_refl _) _).grown fP (by simp) (by simp[Value.ownBlock]);have KD:oz w1 T vg v7 Mm w7:=oz.start ru.out (by rw[HVL.out];simpa using lg) (fun k hk=>by
       rcases nV with e|e
       ·rw[e] at hk;cases hk;exact Nat.le_refl _
       ·rw[e] at hk;cases hk;simp)
      have X5:=ru.out.more II;have HG7:=Lib.hid X5;have Se:=Lib.hid KD;clear KD X5 II lg fP nV PK Us hz ru;generalize hf:(fun k:Nat=>(Mm[k]?).getD (.int .i64 0))=f;have hrange:(List.range N).map f=Mm:=by
       refine List.ext_getElem? fun k=> ?_
       rw[List.getElem?_map,←hf];by_cases hk:k<N
       ·simp[hk,List.getElem?_eq_getElem (show k<Mm.length by have:=HVL.out;omega)]
       ·simp[hk,List.getElem?_eq_none (show Mm.length≤k by have:=HVL.out;omega)]
      have HRG:=Lib.hid hrange;have HF:=Lib.hid hf;clear hrange hf;go_wp2;go_loopg [14,18,19] N (fun gk SH Uq s19 wr=>SK w1 gr M sizes aj N P f gk SH Uq s19 wr)
      case atStart=>exact ⟨0,T,nn,st,vo,_,_,got,List.range N,by simp,by simp,by omega,rfl,rfl,rfl,HG7.out,by rw[HRG.out];exact Se.out,fun k hk=>List.mem_range.1 hk,fun k hk=> .inl (List.mem_range.2 hk)⟩
      case round=>
       obtain ⟨i2,T2,n2,st2,Ud,vg2,vr2,SN,idx,Ep,hil,hn2,rfl,rfl,rfl,Xw,Mg,abx,aby⟩:=hrel;clear HG7 Se;have WQ:=Lib.hid Ep;have De:=Lib.hid Xw;have MP:=Lib.hid Mg;have SQ:=Lib.hid abx;have W9:=Lib.hid aby;obtain ⟨Ar,cr,rfl,hsr,ani⟩:=aP (by simpa using Mg.row:wr.ownsRow w1.heap.size 22 1 _ idx.length (idx.map f));have hcr:=hsr.cap;have hmr:=hsr.mx;have HSR:=Lib.hid hsr;clear Ep Xw Mg abx aby hsr;by_cases h0:0<idx.length
       ·obtain ⟨x,hx⟩:∃x,(order[i2]?.getD 0).toNat=x:=⟨_,rfl⟩
        obtain ⟨j,hj⟩:∃j,(if i2<Q then x%idx.length else 0)=j:=⟨_,rfl⟩
        have hjl:j<idx.length:=by
         rw[←hj];split
         ·exact Nat.mod_lt _ h0
         ·exact h0
        obtain ⟨k,hk⟩:∃k,idx[j]? =some k:=⟨_,List.getElem?_eq_getElem hjl⟩
        have hkN:k<N:=SQ.out k (List.mem_of_getElem? hk);obtain ⟨ad2,Aj,cj,WZ,_,hlv,_,hls⟩:=uL HS.out Nt.out E4.out hkN;clear WZ;have hfk:f k= .slice Aj (kN sizes aj k).length cj:=by
         rw[←HF.out];simp[hlv]
        obtain ⟨adr,rfl,hrb,abz⟩:=HSR.out.at_ h0;have agM:wr.cell? (adr.add j)=some (.slice Aj (kN sizes aj k).length cj):=abz j _ (by rw[List.getElem?_map,hk,Option.map_some,hfk]);have hx256:x<256:=by rw[←hx];exact (order[i2]?.getD 0).toNat_lt
        have hdc:=kP HS.out.hs HS.out.le HS.out.ne k hkN;have hel:=qO HS.out hkN;have T0:=gU HS.out.hs HS.out.le HS.out.ne;have hpi:=si (sizes:=sizes) (aj:=aj) k (T0.size_pos hkN);have hbW:=GK.out.eH.trans (De.out.eH.mono GK.out.eH.size);have Ut:∀bo,B3=some bo→i2<Q→bo.block<wr.heap.size∧wr.cell? (bo.add i2)=some (.int .u8 (x:Nat)):=fun bo e Uu=>by
         obtain ⟨bd,e2,hbb,hbc⟩:=(lI.out.below hbW).at_ (by omega);rw[e2] at e;cases e;refine ⟨Nat.lt_of_lt_of_le hbb hbW.size,hbc i2 _ ?_⟩;unfold cu;rw[List.getElem?_map,List.getElem?_eq_getElem (by rw[HQL.out];exact Uu),←hx,List.getElem?_eq_getElem (by rw[HQL.out];exact Uu)];rfl
        have Uv:i2<Q→∃bo,B3=some bo:=fun Uu=>by
         obtain ⟨bd,e2,_⟩:=lI.out.at_ (by omega);exact ⟨bd,e2⟩
        have hrc:=De.out.recv HS.out PE (by unfold maxLen;omega) (i2:Int) (by omega) hkN hpi hdc.2 Aj _ cj (fun W2 hk=>JP hls De.out.eH De.out.tb hk) (by omega);have hsl1:=hls.cap;have hsl2:=hls.mx;have Ij:=Lib.hid hrc;have HJ:=Lib.hid hj;have HK:=Lib.hid hk;have HFK:=Lib.hid hfk;have abA:=Lib.hid Ut;have abB:=Lib.hid Uv;have hjI:(j:Int)<(idx.length:Int):=by omega
        have hjc:(j:Int)≤(cr:Int):=by omega
        have hj1:(j:Int)+1≤(idx.length:Int):=by omega
        clear hrc abz hls hlv hdc hel T0 hpi hbW hx hj hk hfk Ut Uv;generalize kN sizes aj k=E at*;go_upto_if 99 with (fail)
        go_cut [20] (fun s20 wx=>s20= .int .i64 (j:Nat)∧wx=wr)
        case first=>
         by_cases Uu:i2<Q
         ·obtain ⟨bo,rfl⟩:=abB.out Uu;obtain ⟨hob,hoc⟩:=abA.out bo rfl Uu;have X6:=HJ.out;rw[if_pos Uu] at X6;have hmod:(x:Int)%(idx.length:Int)=(j:Int):=by rw[←X6];rfl
          clear X6;go_wp2_with fail;go_meet;exact ⟨by rw[hmod],rfl⟩
         ·have X6:=HJ.out;rw[if_neg Uu] at X6;have anj:decide ((i2:Int)<(Q:Int))=false:=decide_eq_false (by omega);subst X6;go_wp2_with fail;go_meet;exact ⟨rfl,rfl⟩
        case rest=>
         obtain ⟨rfl,rfl⟩:=hcut;clear abA abB HJ;go_wp2_with fail;refine Ij.out.mono ?_;rintro e5 w5 ⟨T5,Ik,v5,n5,rfl,hH,uf,hn5,Aw,Km,hhas,PL⟩;obtain ⟨R,hR⟩:∃R,bX cR st2 (i2:Int) E=R:=⟨_,rfl⟩
         rw[hR] at hH uf hhas PL;have G8:=EB.len HS.out hH;obtain ⟨vgs,hvg,_,_⟩:=id hH.gl;obtain ⟨vos,nE,_,_⟩:=id uf;have G9:=uf.one nE;obtain ⟨A5,c5,rfl,hs5,_⟩:=aP nE;have agF:=hs5.cap;have agG:=hs5.mx;have yQ:=hH.eH.size;have WW:=De.out.eH.size;have Bq:=Lib.hid (MP.out.stay Km Aw);have HH5:=Lib.hid hH;have Pb:=Lib.hid uf;have abv:=Lib.hid G8;have PI:=Lib.hid hvg;have WX:=Lib.hid nE;have wZ:=Lib.hid hhas;have abC:=Lib.hid (PL rfl rfl);have WY:SN.length+R.2.1.length≤8:=by have:=iM.out;omega
         clear hH uf G8 hhas PL Aw Km Ij De MP agM hR HSR;go_wp2_with (first
          |(go_at_call 11;refine (dQ _ _).mono ?_;rintro e3 w3 ⟨rfl,rfl⟩)
          |(at_builtin;refine dM _ rfl (.tmp 121) (.tmp 122) 34 rfl w1.heap.size 22 j0 (.slice none 0 0) 24 und22 hj0 hm0 hm1 hm2 rfl _ SN.length vgs rfl PI.out _ A5 R.2.1.length c5 vos rfl hs5 G9 ?c1 ?c2 ?c3 ?_))
         case c1=>unfold maxLen;omega
         case c2=>omega
         case c3=>exact yQ
         intro v6 w6 hown6 jg hb6;have hH6:=HH5.out.app Pb.out WW PI.out WX.out hown6 jg hb6;have Ia:=Bq.out.app jg hb6;have X4:=Lib.hid hH6;have Ov:=Lib.hid Ia;clear hH6 Ia hown6 jg hb6 hvg nE hs5 G9 Bq;go_upto_region 26 with (fail)
         have hwj:IntKind.i64.wrap ((j:Int)+1)=((j+1:Nat):Int):=by rw[IntKind.wrap_i64];omega
         have ank:(0:Int)≤(j:Int)+1:=by omega
         have MH:=X4.out.eH.size;have hB0:Below w6.heap.size w6 ((w6.alloc (.cells #[] 22)).drew):=((Below.refl _ w6).alloc (Nat.le_refl _) _).drew;have Xa:=Lib.hid (fun (W:World) (hW:Below w6.heap.size w6 W)=>(dZ (by simpa using Ov.out.row:w6.ownsRow w1.heap.size 22 1 (.slice (some adr) idx.length cr) idx.length (idx.map f))).below hW);have Mq:=Lib.hid (show ∀u∈idx.map f,u.oneCell'=true from fun u hu=>by
          obtain ⟨k',hk',rfl⟩:=List.mem_map.1 hu;obtain ⟨_,Aj,cj,WZ,_,e,_⟩:=uL HS.out Nt.out E4.out (SQ.out k' hk');rw[←HF.out];simp only[e,Option.getD_some];rfl)
         have abD:=Lib.hid (show ((w6.alloc (.cells #[] 22)).drew).ownsRow w1.heap.size 22 1 (.slice (some ⟨w6.heap.size,0,none⟩) 0 0) 0 [] from (World.ownsRow_lit w6 #[] 0 MH (by unfold maxLen;omega) rfl).drew')
         go_region_law (first
          |(refine dS _ (by rfl) (.tmp 124) (.tmp 127) 34 (by rfl) w1.heap.size 22 j0 (.slice none 0 0) 24 und22 hj0 hm0 hm1 hm2 rfl (.slice (some ⟨w6.heap.size,0,none⟩) 0 0) 0 [] (by rfl) abD.out _ (some adr) j cr ((idx.map f).take j) (by rfl) ((Xa.out _ hB0).abn (by omega)) (fun u hu=>Mq.out u (List.mem_of_mem_take hu)) (by unfold maxLen;omega) (by omega) (by simp;omega) ?_;intro v8 w8 Cr vD tC;have Qb:Below w6.heap.size w6 w8:=hB0.grown vD (by simp) (by simp[Value.ownBlock]);have hz8:=Qb.size)
          |(refine dS _ (by rfl) (.tmp 128) (.tmp 132) 34 (by rfl) w1.heap.size 22 j0 (.slice none 0 0) 24 und22 hj0 hm0 hm1 hm2 rfl v8 (0+j) ([]++(idx.map f).take j) (by rfl) Cr _ _ (idx.length-(j+1)) (cr-(j+1)) ((idx.map f).drop (j+1)) (by rfl) ((Xa.out _ Qb).WV (by omega)) (fun u hu=>Mq.out u (List.mem_of_mem_drop hu)) (by unfold maxLen;omega) (by omega) (by omega) ?_;intro v9 w9 Uw PN oQ))
         have VP:Below w6.heap.size w6 w9:=Qb.grown PN hz8 (fun k hk=>by
          rcases tC with e|e
          ·rw[e] at hk;cases hk;exact Nat.le_refl _
          ·rw[e] at hk;cases hk;simp)
         have hdl:(idx.take j++idx.drop (j+1)).length=idx.length-1:=by
          rw[List.length_append,List.length_take,List.length_drop];omega
         have zL:w9.ownsRow w1.heap.size 22 1 v9 ((idx.take j++idx.drop (j+1)).map f).length ((idx.take j++idx.drop (j+1)).map f):=by
          have e1:(idx.take j++idx.drop (j+1)).map f= []++(idx.map f).take j++(idx.map f).drop (j+1):=by simp[List.map_take,List.map_drop]
          have e2:((idx.take j++idx.drop (j+1)).map f).length=0+j+(idx.length-(j+1)):=by rw[List.length_map,hdl];omega
          rw[e2,e1];exact Uw
         have xJ:oz w1 T5 v6 v9 ((idx.take j++idx.drop (j+1)).map f) w9:=oz.start X4.out zL (fun k hk=>by
          rcases oQ with e|e
          ·rcases tC with e2|e2
           ·rw[e,e2] at hk;cases hk;exact Nat.le_refl _
           ·rw[e,e2] at hk;cases hk;simp
          ·rw[e] at hk;cases hk;exact hz8)
         have QZ:=Lib.hid (X4.out.more VP);have EM:=Lib.hid xJ;have wh:=Lib.hid hdl;clear xJ VP zL hdl Uw PN oQ Cr vD tC Qb hz8 abD Xa Mq X4 Ov;go_wp2
         all_goals
          go_roundg (idx.length-1)
          case measure=>rw[WQ.out];omega
          case rel=>
           exact ⟨i2+1,T5,n5,R.1,Ik,_,_,SN++R.2.1,idx.take j++idx.drop (j+1),wh.out.symm,by rw[wh.out];omega,by omega,by go_num,rfl,rfl,QZ.out,EM.out,fun k' hk'=>SQ.out k' (by
            rcases List.mem_append.1 hk' with h|h
            ·exact List.mem_of_mem_take h
            ·exact List.mem_of_mem_drop h),fun k' hk'=>by
            rcases W9.out k' hk' with h|h
            ·rcases SI HK.out h with e|e
             ·exact .inr (e ▸ abC.out)
             ·exact .inl e
            ·exact .inr (wZ.out k' h)⟩
       ·have hidx:idx= []:=List.eq_nil_of_length_eq_zero (by omega);subst hidx;have hall:=De.out.rx.all (fun k hk=>(W9.out k hk).resolve_left (by simp));have hrep:iO st2=(N,[]):=by
         unfold iO;rw[C5 (by rw[hall.1,hall.2]),hall.2]
        have hge:=De.out.ge;rw[hall.1,List.append_nil] at hge;have Ev:SN=aj:=by
         rw[←hge];unfold jN;dsimp only;rw[HS.out.nil];simp
        have hgl:=De.out.gl;rw[Ev] at hgl;have QL:=(De.out.rx.report (gU HS.out.hs HS.out.le HS.out.ne)).2.2;rw[hrep] at QL;have hst:=zT HS.out.hs HS.out.le HS.out.ne HS.out.nil De.out.rx (aI:=N) QL (Nat.le_refl _);obtain ⟨hs1,hs2,_,hs4⟩:=hst;obtain ⟨hs5,hs6⟩:=hs4 rfl rfl;have hsf:=(jI HS.out.hs HS.out.le HS.out.ne N (Nat.le_refl _)).fa;obtain ⟨S,hS⟩:∃S,eD cS (kM sizes aj N) 0 (N:Int) []=S:=⟨_,rfl⟩
        rw[hS] at hs2 hs5 hs6;obtain ⟨vgs,agN,_,_⟩:=id hgl;have htd:=GK.out.add (N':=fun k=>vg2.ownBlock=some k) De.out.eH (fun k hk=> .inr (agN.lt k hk));have HST:=Lib.hid (fun (W:World) (A5:Option Addr) (c5:Nat) (hb:Below wr.heap.size wr W) (hN:bP W A5 0 c5 []) (hA:∀ad,A5=some ad→wr.heap.size≤ad.block)=>LC htd hb (by omega) hsf 0 (N:Int) (by omega) A5 0 c5 [] hN hA hs1);rw[hS] at HST;have YL:Calls Tryz.prog 10 #[.pointer (some ⟨gr,0,none⟩)] wr fun e w'=>∃A c,e= .returned (.tuple #[.agg #[.int .i64 (N:Nat),.slice A 0 c],.int .i64 0])∧bP w' A 0 c []∧(∀ad,A=some ad→wr.heap.size≤ad.block)∧Below wr.heap.size wr w':=by
         have hh:=qN De.out.rc De.out.ok De.out.sz;rw[hrep] at hh;exact hh
        have Hu:=Lib.hid YL;have HGL:=Lib.hid hgl;have HB8:=Lib.hid De.out.eH;obtain ⟨S1,S2⟩:=S;dsimp only at hs2 hs5 hs6;subst hs2;clear hgl YL hs1 hs4 hS hsf QL hge Ev hrep hall De MP W9 SQ HSR;go_wp2_with (first
         |(go_at_call 10;refine Hu.out.mono ?_;rintro e5 w5 ⟨A5,c5,rfl,XR,Ht,hb5⟩))
        have hb0:Below wr.heap.size wr (w5.alloc (.cells #[.int .i64 (N:Nat),.slice A5 0 c5] 42)):=hb5.alloc hb5.size _;refine (HST.out _ A5 c5 hb0 (XR.alloc _) Ht).mono ?_;rintro e6 w6 ⟨rfl,yS⟩;have Wu:=Lib.hid yS.td;have abE:=((HGL.out.below hb0).zero.u8 yS.ns yS.u8);obtain ⟨Ag,cg,us,rfl,abF⟩:=abE.Nh;have FE:=(HH.out.below yS.td.eH).more yS.td.eH.size;have Nz:=wI Ag A aj.length cg n c us vs aj aj w6 abF FE;rw[beq_self_eq_true] at Nz;have HLI:=Lib.hid Nz;have aji:((aj.length:Int)==(n:Int))=true:=by rw[iM.out];simp
        clear abE abF FE Nz yS HST HGL hb0 XR Ht hb5;have X7:=Lib.hid (fun (W:World) (hW:TD w (fun k=>(Value.slice Ag aj.length cg).ownBlock=some k) cS gs S1 (3*N+3) W)=>Gi hW);have HTU:=Lib.hid (fun (W:World) (hW:TD w (fun k=>(Value.slice Ag aj.length cg).ownBlock=some k) cS gs S1 (3*N+3) W)=>LB hW);unfold TJ at X7;rw[hs5] at X7;rw[hs6] at HTU;go_wp2_with (first
         |(go_at_call 11;refine (dQ _ _).mono ?_;rintro e7 w7 ⟨rfl,rfl⟩)
         |(go_at_call 21;refine HLI.out.mono ?_;rintro e7 w7 ⟨rfl,nV⟩)
         |(go_at_call 22;refine (X7.out _ (Wu.out.more nV)).mono ?_;rintro e8 w8 ⟨rfl,tC⟩)
         |(go_at_call 23;refine (HTU.out _ ((Wu.out.more nV).more tC)).mono ?_;rintro e9 w9 ⟨⟨A9,c9,rfl⟩,oQ⟩)
         |(go_at_call 7;refine (jw _).mono ?_;rintro e10 EI ⟨rfl,EC⟩))
        all_goals go_ret
        all_goals exact ⟨rfl,(Wu.out.eH.trans (nV.mono Wu.out.eH.size)).trans (((tC.trans (oQ.mono tC.size)).trans (EC.mono (tC.trans (oQ.mono tC.size)).size)).mono (Nat.le_trans Wu.out.eH.size nV.size))⟩
end
section
open Go.ChangeShapes Go.WideShapes Go.ChangeAt Go.RowKit Go.Deep Go.Joins
section
variable {H:Type} {enc:TypeId × Value→H} {w:World} {base:Nat} {spare:Nat→Bool} {held:Bool}
set_option maxRecDepth 100000 in
theorem He {r:Reach} {b0:Nat} {v:Value} {d:DataW H} {p:List MemPlace} (hv:Value.okWide Tryz.prog w r b0 34 v) (h:DataW.Trod enc Tryz.prog w base spare held 34 v d p):
 ∃(A:Option Addr) (n c:Nat) (vs:List Value) (ps:List (List UInt8)),v= .slice A n c∧gD w w.heap.size A n c vs ps:=by
 obtain ⟨A,n,c,rfl⟩:=okWide_slice Tryz.underlying34 hv;obtain ⟨fuel,hf⟩:=h;obtain ⟨A2,n2,c2,vs,ps,hv2,hh⟩:=Il (by simpa[Value.cells] using hf);cases hv2;exact ⟨A,n,c,vs,ps,rfl,hh⟩
end
end
end Go.Proofs.YtiecgfahidpldaaGreat
