/- law36: AmrecvOnce walked. Arguments opened: a slice of arrays of three bytes. -/
import Derived.Test.YtiecgfahidpldaaGreatM3al
import Derived.Test.YtiecgfahidpldaaGreatM3ba
import Derived.Test.YtiecgfahidpldaaGreatM3bc
import Derived.Deep.RegionLaw
import Derived.Deep.Strs
import Derived.OpenShut
namespace Go.Proofs.YtiecgfahidpldaaGreat
section
open Go.RowKit Go.Shelf
attribute [local go_sem] Oper.semAt_some PG
structure X8 (w:World) (B:Nat) (A:Option Addr) (n c:Nat) (l:List (UInt8 × UInt8 × UInt8)):Prop where
 len:l.length=n
 cap:n≤c
 mx:c≤9223372036854775807
 at_:0<n→∃ad,A=some ad∧ad.block<B∧∀(i:Nat) x,l[i]? =some x→w.cell? (ad.add (i*3))=some (.int .u8 (x.1.toNat:Nat))∧w.cell? (ad.add (i*3+1))=some (.int .u8 (x.2.1.toNat:Nat))∧w.cell? (ad.add (i*3+2))=some (.int .u8 (x.2.2.toNat:Nat))
theorem X8.below {w w':World} {B:Nat} {A:Option Addr} {n c:Nat} {l:List (UInt8 × UInt8 × UInt8)} (h:X8 w B A n c l) (hb:Below B w w'):X8 w' B A n c l:=
 ⟨h.len,h.cap,h.mx,fun h0=>by
  obtain ⟨ad,e,hl,hc⟩:=h.at_ h0;have hk:∀j,w'.cell? (ad.add j)=w.cell? (ad.add j):=fun j=>hb.cell (by rw[block_add];exact hl)
  exact ⟨ad,e,hl,fun i x hx=>by rw[hk,hk,hk];exact hc i x hx⟩⟩
def SY (w1:World) (g M:Nat) (sizes:List UInt8) (aj:List (List UInt8)) (N P gk:Nat) (s12 s13:Value) (wr:World):Prop:=
 ∃(i:Nat) (T:Nat→Nat) (n:Nat) (st:Rc) (vo:Value),gk=P-i∧i≤P∧n≤i∧s13= .int .i64 (i:Nat)∧s12= .int .i64 ((jN aj (fun i=>(bO sizes aj i).1) st.next).length:Nat)∧Ux w1 g M cR sizes aj N T n st vo wr
set_option maxRecDepth 100000 in
set_option maxHeartbeats 8000000 in
theorem zZ (A:Option Addr) (n c:Nat) (vs:List Value) (aj:List (List UInt8)) (B:Option Addr) (m d:Nat) (sizes:List UInt8) (B2:Option Addr) (P d2:Nat) (picks:List (UInt8 × UInt8 × UInt8)) (w:World)
 (h:gD w w.heap.size A n c vs aj) (k:Sl w w.heap.size B m d (cu sizes)) (k2:X8 w w.heap.size B2 P d2 picks):
 Calls Tryz.prog 5 #[.slice A n c,.slice B m d,.slice B2 P d2] w (Up w):=by
 have hval:=wH A n c vs aj w h;have hcap:=h.sl.cap;have hmx:=h.sl.mx;have V5:=k.cap;have kmx:=k.mx;have abp:=k2.cap;have agB:=k2.mx;have hlen:=h.len;have hpl:=k2.len;cases hvb:j5 aj with
 |false=>
  rw[hvb] at hval;clear hpl hlen;go_enter Tryz.func5,Tryz.ntmps5;go_wp2_with (first|(go_at_call 17;refine hval.mono ?_;rintro e1 w1 ⟨rfl,rfl⟩)|(go_at_call 7;refine (jw _).mono ?_;rintro e1 w1 ⟨rfl,hb1⟩));go_ret;exact ⟨rfl,hb1⟩
 |true=>
  rw[hvb] at hval;by_cases h60:60<P
  ·have d60:(60:Int)<(P:Int):=by omega
   clear hpl hlen;go_enter Tryz.func5,Tryz.ntmps5;go_wp2_with (first|(go_at_call 17;refine hval.mono ?_;rintro e1 w1 ⟨rfl,rfl⟩)|(go_at_call 7;refine (jw _).mono ?_;rintro e1 w1 ⟨rfl,hb1⟩));go_ret;exact ⟨rfl,hb1⟩
  ·have d60:decide ((60:Int)<(P:Int))=false:=decide_eq_false (by omega);obtain ⟨h8,hv⟩:=sj.1 hvb;obtain ⟨N,hS⟩:=zy sizes hvb;have GZ:=zQ A n c vs aj B m d sizes w N h k h8 hS;have hn8:n≤8:=by omega
   have HH:=Lib.hid h;have uW:=Lib.hid k2;have HS:=Lib.hid hS;have iM:=Lib.hid hlen;have yF:=Lib.hid hpl;have HSE:=Lib.hid GZ;have hnew:=fun W=>KG hS 0 0 1 2 0 0 1 W (by decide)
   have JQ:=Lib.hid hnew;clear hvb h k k2 hv hlen hpl GZ h8 hS hnew;go_enter Tryz.func5,Tryz.ntmps5;go_wp2_with (first
    |(go_at_call 17;refine hval.mono ?_;rintro e1 w1 ⟨rfl,rfl⟩)
    |(go_at_call 18;refine HSE.out.mono ?_;rintro e1 w1 ⟨gs,vl,rfl,hTD,hL⟩;obtain ⟨Mm,G7,_,zV⟩:=id hL;obtain ⟨AL,cL,rfl,zW,_⟩:=aP G7)
    |(go_at_call 19;refine (JQ.out w1).mono ?_;rintro e2 w2 ⟨gr,M,T,rfl,hG,hb2⟩)
    |(go_at_call 11;refine (dQ _ _).mono ?_;rintro e3 w3 ⟨rfl,rfl⟩))
   rw[uJ];rw[uJ] at zW;have hLc:=zW.cap;have hLm:=zW.mx;have HG:=Lib.hid hG.toR;have Nt:=Lib.hid zW;have E4:=Lib.hid (fun (i:Nat) (q:List UInt8) (hq:(Mj sizes aj N)[i]? =some q)=>(zV i q hq).imp fun vi hh=>And.intro hh.1 hh.2.1);have GK:=Lib.hid hTD;have agD:=HS.out.le;have h0:(jN aj (fun i=>(bO sizes aj i).1) lq.next).length=0:=by
    have:=(gU HS.out.hs HS.out.le HS.out.ne).dn0;show (jN aj _ 0).length=0
    rw[this];rfl
   have H0:=Lib.hid h0;clear hG hL hval HSE JQ hTD zW zV G7 hb2 h0;go_loopg [12,13] P (fun gk s12 s13 wr=>SY w1 gr M sizes aj N P gk s12 s13 wr)
   case atStart=>exact ⟨0,T,0,lq,_,by omega,Nat.zero_le _,Nat.le_refl _,rfl,by rw[H0.out];rfl,HG.out⟩
   case round=>
    obtain ⟨i,T,nn,st,vo,uQ,hiP,hnn,rfl,rfl,hG2⟩:=hrel;have KA:=Lib.hid uQ;have ru:=Lib.hid hG2;clear uQ hG2 HG;by_cases hlt:i<P∧0<N
    ·obtain ⟨hlt,hN0⟩:=hlt;obtain ⟨t,ht⟩:∃t,picks[i]? =some t:=⟨_,List.getElem?_eq_getElem (by rw[yF.out];exact hlt)⟩
     obtain ⟨x,hx⟩:∃x,t.1.toNat=x:=⟨_,rfl⟩
     obtain ⟨fa,hfa⟩:∃fa,t.2.1.toNat=fa:=⟨_,rfl⟩
     obtain ⟨fb,Yb⟩:∃fb,t.2.2.toNat=fb:=⟨_,rfl⟩
     obtain ⟨j,hj⟩:∃j,x%N=j:=⟨_,rfl⟩
     have qb:j<N:=by rw[←hj];exact Nat.mod_lt _ hN0
     obtain ⟨ad,Aj,cj,hAL,hlb,_,hlc,hls⟩:=uL HS.out Nt.out E4.out qb;subst hAL;have hbW:=GK.out.eH.trans (ru.out.eH.mono GK.out.eH.size);obtain ⟨bd,rfl,hbb,hbc⟩:=(uW.out.below hbW).at_ (by omega);obtain ⟨hp0,hp1,hp2⟩:=hbc i t ht;rw[hx] at hp0;rw[hfa] at hp1;rw[Yb] at hp2;have hx256:x<256:=by rw[←hx];exact t.1.toNat_lt
     have ajm:fa<256:=by rw[←hfa];exact t.2.1.toNat_lt
     have hb256:fb<256:=by rw[←Yb];exact t.2.2.toNat_lt
     have abt:wr.cell? (ad.add j)=some (.slice Aj (kN sizes aj j).length cj):=(ru.out.eH.cell hlb).trans hlc;have hmod:(x:Int)%(N:Int)=(j:Int):=by rw[←hj];rfl
     have hjI:(j:Int)<(N:Int):=by omega
     have abJ:=Lib.hid hls;clear hls hlc hbW hbc ht hx hfa Yb hj;go_upto_region 12 with (fail)
     go_cut [85] (fun s85 wx=>s85= .bool (decide (fa<fb))∧wx=wr.drew)
     case first=>
      have JV:wr.drew.cell? {block:=(bd.add (i*3)).block,off:=(bd.add (i*3)).off+1}=some (.int .u8 (fa:Nat)):=by
       have e:=hp1;rw[←add_add,show (bd.add (i*3)).add 1= {block:=(bd.add (i*3)).block,off:=(bd.add (i*3)).off+1} by simp[Addr.add]] at e;exact e
      have JW:wr.drew.cell? {block:=(bd.add (i*3)).block,off:=(bd.add (i*3)).off+2}=some (.int .u8 (fb:Nat)):=by
       have e:=hp2;rw[←add_add,show (bd.add (i*3)).add 2= {block:=(bd.add (i*3)).block,off:=(bd.add (i*3)).off+2} by simp[Addr.add]] at e;exact e
      go_region
      all_goals
       go_wp2_with fail;go_meet;exact ⟨rfl,rfl⟩
     case rest=>
      obtain ⟨rfl,rfl⟩:=hcut;have hbel0:=ru.out.eH.drew;have abK:=fun (W:World) (hW:Below wr.heap.size wr W)=>wL.old (T:=T) HS.out qb abJ.out (ru.out.eH.trans (hW.mono ru.out.eH.size)) ru.out.tb
      have hdec:=Mt HS.out qb abJ.out hbel0;have hz0:∀k,wr.heap.size≤k→T k=0:=fun k hk=>ru.out.rc.zero hk
      have Xb:=Lib.hid abK;have My:=Lib.hid hdec;have HZ0:=Lib.hid hz0;clear abK hdec hbel0 hz0;go_upto_if 85 with (fail)
      go_cut [14,15,16,17,18] (fun SH s15 s16 s17 Uq wx=>wL sizes aj T j SH wx∧Below wr.heap.size wr wx)
      case first=>
       by_cases hab:fa<fb
       ·have dab:decide (fa<fb)=true:=decide_eq_true hab;have BG:=Lib.hid (fun (W:World) (A:Option Addr) (c:Nat) (vs:List Value) (ht:fb≤au (aH sizes aj j).ps) (hs:gD W W.heap.size A (aH sizes aj j).ps.length c vs (aH sizes aj j).ps)=>Mv HS.out qb hab ht hs);have MC:=Lib.hid (fun (W:World) (A:Option Addr) (c:Nat) (vs:List Value) (ht:au (aH sizes aj j).ps<fb) (hs:gD W W.heap.size A (aH sizes aj j).ps.length c vs (aH sizes aj j).ps)=>BF (fr:=fa) HS.out qb ht hs);have Es:=Lib.hid (fun (W:World) (A:Option Addr) (c:Nat) (vs:List Value) (ht:fb≤au (aH sizes aj j).ps) (hs:gD W W.heap.size A (aD (aH sizes aj j).ps 0 fa fb (aH sizes aj j).ps.length).length c vs (aD (aH sizes aj j).ps 0 fa fb (aH sizes aj j).ps.length)) (hz:∀k,W.heap.size≤k→T k=0)=>Mx (T:=T) HS.out qb hab ht hs hz);generalize decide (fb=au (aH sizes aj j).ps)=gN at BG Es;generalize aM (aH sizes aj j).ps (aH sizes aj j).s 0 fa (aH sizes aj j).ps.length=bs at BG Es;generalize bI (aH sizes aj j).ps (aH sizes aj j).e 0 fb (aH sizes aj j).ps.length=be at BG Es;generalize aD (aH sizes aj j).ps 0 fa fb (aH sizes aj j).ps.length=rs at BG Es;generalize (aH sizes aj j).ps=qs at BG MC Es My;generalize (aH sizes aj j).s=xs at BG MC My;generalize (aH sizes aj j).e=xe at BG MC My
        generalize zx sizes aj j=po at BG MC My;go_upto_region 16 with (first
         |(go_at_call 24;refine My.out.mono ?_;rintro e3 w3 ⟨A3,c3,vs3,rfl,ig,hb3⟩)
         |(go_at_call 11;refine (dQ _ _).mono ?_;rintro e4 w4 ⟨rfl,rfl⟩))
        have hB4:Below wr.heap.size wr (w3.alloc (.cells #[.int .i64 (j:Nat),.bool po,.bool false,.bool false,.int .i64 0,.bool xs,.bool xe,.slice A3 qs.length c3] 72)):=((Below.refl _ wr).drew.trans hb3).alloc hb3.size _;have TV:=aA.new w3 72 #[.int .i64 (j:Nat),.bool po,.bool false,.bool false,.int .i64 0,.bool xs,.bool xe,.slice A3 qs.length c3];have pW:=(ig.alloc (Nat.le_refl _) (.cells #[.int .i64 (j:Nat),.bool po,.bool false,.bool false,.int .i64 0,.bool xs,.bool xe,.slice A3 qs.length c3] 72));generalize w3.alloc (.cells #[.int .i64 (j:Nat),.bool po,.bool false,.bool false,.int .i64 0,.bool xs,.bool xe,.slice A3 qs.length c3] 72)=w4 at*;generalize w3.heap.size=b3 at*;have Xc:=(pW.more (Nat.le_of_lt TV.lt)).below (Below.refl _ w4).drew;have hbl:bd.block<wr.heap.size:=by have:=GK.out.eH.size;have:=ru.out.eH.size;omega
        have JV:w4.drew.cell? {block:=(bd.add (i*3)).block,off:=(bd.add (i*3)).off+1}=some (.int .u8 (fa:Nat)):=by
         have e:=(hB4.cell (p:=bd.add (i*3+1)) (by rw[block_add];exact hbl)).trans hp1;rw[←add_add,show (bd.add (i*3)).add 1= {block:=(bd.add (i*3)).block,off:=(bd.add (i*3)).off+1} by simp[Addr.add]] at e;exact e
        have JW:w4.drew.cell? {block:=(bd.add (i*3)).block,off:=(bd.add (i*3)).off+2}=some (.int .u8 (fb:Nat)):=by
         have e:=(hB4.cell (p:=bd.add (i*3+2)) (by rw[block_add];exact hbl)).trans hp2;rw[←add_add,show (bd.add (i*3)).add 2= {block:=(bd.add (i*3)).block,off:=(bd.add (i*3)).off+2} by simp[Addr.add]] at e;exact e
        have uP:=Lib.hid hB4;have Uy:=Lib.hid (show aA w4.drew b3 72 #[.int .i64 (j:Nat),.bool po,.bool false,.bool false,.int .i64 0,.bool xs,.bool xe,.slice A3 qs.length c3] from TV);have H7:(bd.add (i*3)).block<w4.heap.size:=by rw[block_add];have:=hB4.size;omega
        have HS4:=Lib.hid Xc;have abL:gD (w4.drew.alloc (.cells #[.int .i64 0,.bool false,.bool false,.bool false,.int .i64 0,.bool false,.bool false,.slice none 0 0] 72)) (w4.drew.alloc (.cells #[.int .i64 0,.bool false,.bool false,.bool false,.int .i64 0,.bool false,.bool false,.slice none 0 0] 72)).heap.size A3 qs.length c3 vs3 qs:=(Xc.alloc (Nat.le_refl _) _).more (by simp);have HSA:=Lib.hid abL;have HBC:=Lib.hid (show aA (w4.drew.alloc (.cells #[.int .i64 0,.bool false,.bool false,.bool false,.int .i64 0,.bool false,.bool false,.slice none 0 0] 72)) w4.heap.size 72 #[.int .i64 0,.bool false,.bool false,.bool false,.int .i64 0,.bool false,.bool false,.slice none 0 0] from aA.new w4.drew 72 #[.int .i64 0,.bool false,.bool false,.bool false,.int .i64 0,.bool false,.bool false,.slice none 0 0]);have VC:=Lib.hid (show Below wr.heap.size wr (w4.drew.alloc (.cells #[.int .i64 0,.bool false,.bool false,.bool false,.int .i64 0,.bool false,.bool false,.slice none 0 0] 72)) from hB4.drew.alloc hB4.size _);have hwa:IntKind.i64.wrap (fa:Int)=(fa:Int):=by rw[IntKind.wrap_i64];omega
        have hwb:IntKind.i64.wrap (fb:Int)=(fb:Int):=by rw[IntKind.wrap_i64];omega
        clear hB4 pW Xc abL ig hb3 TV hp0 hp1 hp2;by_cases htl:fb≤au qs
        ·go_cut [17,18] (fun s17 Uq wx=>Uq= .int .i64 0∧JS rs (fun v=> #[.int .i64 (j:Nat),.bool false,.bool true,.bool gN,.int .i64 (fa:Nat),.bool bs,.bool be,v]) wr s17 wx)
         case first=>
          refine wp_region_noPanic ?_;refine bM (fun w'=>aA w' b3 72 #[.int .i64 (j:Nat),.bool po,.bool false,.bool false,.int .i64 0,.bool xs,.bool xe,.slice A3 qs.length c3]∧w'.cell? {block:=(bd.add (i*3)).block,off:=(bd.add (i*3)).off+1}=some (.int .u8 (fa:Nat))∧w'.cell? {block:=(bd.add (i*3)).block,off:=(bd.add (i*3)).off+2}=some (.int .u8 (fb:Nat))) [18] (by kernel_rfl) ?_;have hHeld:=(show (fun w'=>aA w' b3 72 #[.int .i64 (j:Nat),.bool po,.bool false,.bool false,.int .i64 0,.bool xs,.bool xe,.slice A3 qs.length c3]∧w'.cell? {block:=(bd.add (i*3)).block,off:=(bd.add (i*3)).off+1}=some (.int .u8 (fa:Nat))∧w'.cell? {block:=(bd.add (i*3)).block,off:=(bd.add (i*3)).off+2}=some (.int .u8 (fb:Nat))) w4.drew from ⟨Uy.out,JV,JW⟩);refine tkX [18] 0 ?_ rfl (Or.inl ⟨by rfl,?_⟩) hHeld ?_;rotate_left
          ·intro w' hSw;obtain ⟨hS1,hS2,ig⟩:=hSw;obtain ⟨y0,y1,y2,y3,y4,y5,y6,y7⟩:=hS1.eight;go_simp
           try with_reducible rfl
          try simp only[Act.put,zzA,zzE,yo,UM,zzD]
          refine tkY 1 ?_ rfl (Or.inl ⟨by rfl,?_⟩) hHeld ?_;rotate_left
          ·intro w' hSw;go_simp
           try with_reducible rfl
          try simp only[Act.put,zzA,zzE,zzF,yo,UM,zzD]
          refine tkY 2 ?_ rfl (Or.inl ⟨by rfl,?_⟩) hHeld ?_;rotate_left
          ·intro w' hSw;go_simp
           try with_reducible rfl
          try simp only[Act.put,zzA,zzE,zzF,yo,UM,zzD]
          refine tkY 3 ?_ rfl (Or.inl ⟨by rfl,?_⟩) hHeld ?_;rotate_left
          ·intro w' hSw;go_simp
           try with_reducible rfl
          try simp only[Act.put,zzA,zzE,zzF,yo,UM,zzD]
          refine tkY 4 ?_ rfl (Or.inl ⟨by rfl,?_⟩) hHeld ?_;rotate_left
          ·intro w' hSw;go_simp
           try with_reducible rfl
          try simp only[Act.put,zzA,zzE,zzF,yo,UM,zzD]
          refine tkX [18] 5 ?_ rfl (Or.inl ⟨by rfl,?_⟩) hHeld ?_;rotate_left
          ·intro w' hSw;obtain ⟨hS1,hS2,ig⟩:=hSw;go_simp
           try with_reducible rfl
          try simp only[Act.put,zzA,zzE,zzF,yo,UM,zzD]
          refine tkY 6 ?_ rfl (Or.inl ⟨by rfl,?_⟩) hHeld ?_;rotate_left
          ·intro w' hSw;go_simp
           try with_reducible rfl
          try simp only[Act.put,zzA,zzE,zzF,yo,UM,zzD]
          refine tkY 7 ?_ rfl (Or.inl ⟨by rfl,?_⟩) hHeld ?_;rotate_left
          ·intro w' hSw;go_simp
           try with_reducible rfl
          try simp only[Act.put,zzA,zzE,zzF,yo,UM,zzD]
          refine tkY 8 ?_ rfl (Or.inl ⟨by rfl,?_⟩) hHeld ?_;rotate_left
          ·intro w' hSw;go_simp
           try with_reducible rfl
          try simp only[Act.put,zzA,zzE,zzF,yo,UM,zzD]
          refine tkY 9 ?_ rfl (Or.inl ⟨by rfl,?_⟩) hHeld ?_;rotate_left
          ·intro w' hSw;go_simp
           try with_reducible rfl
          try simp only[Act.put,zzA,zzE,zzF,yo,UM,zzD]
          refine tkY 10 ?_ rfl (Or.inl ⟨by rfl,?_⟩) hHeld ?_;rotate_left
          ·intro w' hSw;go_simp
           try with_reducible rfl
          try simp only[Act.put,zzA,zzE,zzF,yo,UM,zzD]
          refine tkX [18] 11 ?_ rfl (Or.inl ⟨by rfl,?_⟩) hHeld ?_;rotate_left
          ·intro w' hSw;obtain ⟨hS1,hS2,ig⟩:=hSw;go_simp
           try with_reducible rfl
          try simp only[Act.put,zzA,zzE,zzF,yo,UM,zzD]
          refine tkY 12 ?_ rfl (Or.inl ⟨by rfl,?_⟩) hHeld ?_;rotate_left
          ·intro w' hSw;go_simp
           try with_reducible rfl
          try simp only[Act.put,zzA,zzE,zzF,yo,UM,zzD]
          refine oW (i:=13) (k:=17) rfl rfl (by kernel_rfl) (by rfl) (by rfl) (fun K hK=> ?_) (fun K hK=> ?_)
          ·go_simp;refine (BG.out _ A3 c3 vs3 htl HS4.out).mono ?_;rintro e5 w5 ⟨A5,c5,rfl,hP5,hb5⟩;have hsw:(fun w'=>aA w' b3 72 #[.int .i64 (j:Nat),.bool po,.bool false,.bool false,.int .i64 0,.bool xs,.bool xe,.slice A3 qs.length c3]∧w'.cell? {block:=(bd.add (i*3)).block,off:=(bd.add (i*3)).off+1}=some (.int .u8 (fa:Nat))∧w'.cell? {block:=(bd.add (i*3)).block,off:=(bd.add (i*3)).off+2}=some (.int .u8 (fb:Nat))) w5:=⟨Uy.out.below hb5 Uy.out.lt,(hb5.cell (p:=⟨(bd.add (i*3)).block,(bd.add (i*3)).off+1,none⟩) H7).trans JV,(hb5.cell (p:=⟨(bd.add (i*3)).block,(bd.add (i*3)).off+2,none⟩) H7).trans JW⟩;refine hK _ _ hsw ?_;clear hK K hHeld;have hHeld:=hsw
           try simp only[Act.put,zzA,zzE,zzF,yo,UM,zzD]
           refine tkY 14 ?_ rfl (Or.inl ⟨by rfl,?_⟩) hHeld ?_;rotate_left
           ·intro w' hSw;go_simp
            try with_reducible rfl
           try simp only[Act.put,zzA,zzE,zzF,yo,UM,zzD]
           refine tkY 15 ?_ rfl (Or.inl ⟨by rfl,?_⟩) hHeld ?_;rotate_left
           ·intro w' hSw;go_simp
            try with_reducible rfl
           try simp only[Act.put,zzA,zzE,zzF,yo,UM,zzD]
           refine tkY 16 ?_ rfl (Or.inl ⟨by rfl,?_⟩) hHeld ?_;rotate_left
           ·intro w' hSw;go_simp
            try with_reducible rfl
           try simp only[Act.put,zzA,zzE,zzF,yo,UM,zzD]
           refine bu (i:=17) rfl (by kernel_rfl) (by rfl) (fun K hK=> ?_);go_simp;refine hK _ _ ⟨hsw.1.alloc _,(World.cell?_alloc_lt w5 _ ⟨(bd.add (i*3)).block,(bd.add (i*3)).off+1,none⟩ (Nat.lt_of_lt_of_le H7 hb5.size)).trans hsw.2.1,(World.cell?_alloc_lt w5 _ ⟨(bd.add (i*3)).block,(bd.add (i*3)).off+2,none⟩ (Nat.lt_of_lt_of_le H7 hb5.size)).trans hsw.2.2⟩ ?_;clear hK K hHeld
           try simp only[Act.put,zzA,zzE,zzF,yo,UM,zzD]
           have jH:=Lib.hid (JS.new uP.out hb5 hP5 (fun v=> #[.int .i64 (j:Nat),.bool false,.bool true,.bool gN,.int .i64 (fa:Nat),.bool bs,.bool be,v]));refine aQ (i:=18) rfl (by kernel_rfl) (by kernel_rfl) (by rfl) (fun K hK=> ?_);go_simp;refine hK _ _ ?_;clear hK K
           try simp only[Act.put,zzA,zzE,zzF,yo,UM,zzD]
           refine tkZ 19 ?_ rfl (Or.inl ⟨by rfl,?_⟩) ?_;rotate_left
           ·intro w' hSw;go_simp
            try with_reducible rfl
           try simp only[Act.put,zzA,zzE,zzF,yo,UM,zzD]
           refine aU (by kernel_rfl) ?_ _;refine NoPanic.normal ?_;go_wp2_with fail;go_meet;exact ⟨rfl,jH.out⟩
          ·go_simp;have hsz:(fun w'=>aA w' b3 72 #[.int .i64 (j:Nat),.bool po,.bool false,.bool false,.int .i64 0,.bool xs,.bool xe,.slice A3 qs.length c3]∧w'.cell? {block:=(bd.add (i*3)).block,off:=(bd.add (i*3)).off+1}=some (.int .u8 (fa:Nat))∧w'.cell? {block:=(bd.add (i*3)).block,off:=(bd.add (i*3)).off+2}=some (.int .u8 (fb:Nat))) (w4.drew.alloc (.cells #[.int .i64 0,.bool false,.bool false,.bool false,.int .i64 0,.bool false,.bool false,.slice none 0 0] 72)):=⟨Uy.out.alloc _,(World.cell?_alloc_lt w4.drew _ ⟨(bd.add (i*3)).block,(bd.add (i*3)).off+1,none⟩ H7).trans JV,(World.cell?_alloc_lt w4.drew _ ⟨(bd.add (i*3)).block,(bd.add (i*3)).off+2,none⟩ H7).trans JW⟩;refine hK _ _ hsz ?_;clear hK K hHeld
           try simp only[Act.put,zzA,zzE,zzF,yo,UM,zzD]
           refine bu (i:=13) rfl (by kernel_rfl) (by rfl) (fun K hK=> ?_);go_simp;refine (BG.out _ A3 c3 vs3 htl HSA.out).mono ?_;rintro e5 w5 ⟨A5,c5,rfl,hP5,hb5⟩;have hlz:(bd.add (i*3)).block<(w4.drew.alloc (.cells #[.int .i64 0,.bool false,.bool false,.bool false,.int .i64 0,.bool false,.bool false,.slice none 0 0] 72)).heap.size:=by simp;exact Nat.lt_succ_of_lt H7
           have hsw:(fun w'=>aA w' b3 72 #[.int .i64 (j:Nat),.bool po,.bool false,.bool false,.int .i64 0,.bool xs,.bool xe,.slice A3 qs.length c3]∧w'.cell? {block:=(bd.add (i*3)).block,off:=(bd.add (i*3)).off+1}=some (.int .u8 (fa:Nat))∧w'.cell? {block:=(bd.add (i*3)).block,off:=(bd.add (i*3)).off+2}=some (.int .u8 (fb:Nat))) w5:=⟨hsz.1.below hb5 hsz.1.lt,(hb5.cell (p:=⟨(bd.add (i*3)).block,(bd.add (i*3)).off+1,none⟩) hlz).trans hsz.2.1,(hb5.cell (p:=⟨(bd.add (i*3)).block,(bd.add (i*3)).off+2,none⟩) hlz).trans hsz.2.2⟩;refine hK _ _ hsw ?_;clear hK K;have hHeld:=hsw
           try simp only[Act.put,zzA,zzE,zzF,yo,UM,zzD]
           refine tkY 14 ?_ rfl (Or.inl ⟨by rfl,?_⟩) hHeld ?_;rotate_left
           ·intro w' hSw;go_simp
            try with_reducible rfl
           try simp only[Act.put,zzA,zzE,zzF,yo,UM,zzD]
           refine tkY 15 ?_ rfl (Or.inl ⟨by rfl,?_⟩) hHeld ?_;rotate_left
           ·intro w' hSw;go_simp
            try with_reducible rfl
           try simp only[Act.put,zzA,zzE,zzF,yo,UM,zzD]
           refine tkY 16 ?_ rfl (Or.inl ⟨by rfl,?_⟩) hHeld ?_;rotate_left
           ·intro w' hSw;go_simp
            try with_reducible rfl
           try simp only[Act.put,zzA,zzE,zzF,yo,UM,zzD]
           have b5:=HBC.out.below hb5 HBC.out.lt;obtain ⟨z0,z1,z2,z3,z4,z5,z6,z7⟩:=b5.eight;have f0:=b5.frozen 0;have f1:=b5.frozen 1;have f2:=b5.frozen 2;have f3:=b5.frozen 3;have f4:=b5.frozen 4;have f5:=b5.frozen 5;have f6:=b5.frozen 6;have f7:=b5.frozen 7;have jH:=Lib.hid (JS.put uP.out VC.out hb5 hP5 b5 (.int .i64 (j:Nat)) (.bool false) (.bool true) (.bool gN) (.int .i64 (fa:Nat)) (.bool bs) (.bool be));refine aQ (i:=18) rfl (by kernel_rfl) (by kernel_rfl) (by rfl) (fun K hK=> ?_);go_simp;refine hK _ _ ?_;clear hK K
           try simp only[Act.put,zzA,zzE,zzF,yo,UM,zzD]
           refine tkZ 19 ?_ rfl (Or.inl ⟨by rfl,?_⟩) ?_;rotate_left
           ·intro w' hSw;go_simp
            try with_reducible rfl
           try simp only[Act.put,zzA,zzE,zzF,yo,UM,zzD]
           refine aU (by kernel_rfl) ?_ _;refine NoPanic.normal ?_;go_wp2_with fail;go_meet;exact ⟨rfl,jH.out⟩
         case rest=>
          obtain ⟨rfl,gc,A6,c6,rfl,hb6,hP6,Ic⟩:=hcut;obtain ⟨y0,y1,y2,y3,y4,y5,y6,y7⟩:=hb6.eight;obtain ⟨vs6,hs6⟩:=aN.FC (D:=fun _=>False) hP6 (fun _ h=>h.elim);have hen:=Es.out _ A6 c6 vs6 htl (hs6 _ (Kept.refl _ _)) (fun k hk=>HZ0.out k (Nat.le_trans Ic.size hk));have Tm:=Lib.hid hen;have Qg:=Lib.hid Ic;clear hb6 hs6 hP6 Ic hen;go_wp2_with (first
           |(go_at_call 11;refine (dQ _ _).mono ?_;rintro e6 w6 ⟨rfl,rfl⟩)
           |(go_at_call 26;refine Tm.out.mono ?_;rintro e7 w7 ⟨v7,rfl,hp7,nV⟩))
          go_meet;exact ⟨hp7,Qg.out.trans (nV.mono Qg.out.size)⟩
        ·have abM:au qs<fb:=by omega
         clear htl;have htl:=abM;clear abM;go_cut [17,18] (fun s17 Uq wx=>Uq= .int .i64 6∧Below wr.heap.size wr wx)
         case first=>
          refine wp_region_noPanic ?_;refine bM (fun w'=>aA w' b3 72 #[.int .i64 (j:Nat),.bool po,.bool false,.bool false,.int .i64 0,.bool xs,.bool xe,.slice A3 qs.length c3]∧w'.cell? {block:=(bd.add (i*3)).block,off:=(bd.add (i*3)).off+1}=some (.int .u8 (fa:Nat))∧w'.cell? {block:=(bd.add (i*3)).block,off:=(bd.add (i*3)).off+2}=some (.int .u8 (fb:Nat))) [18] (by kernel_rfl) ?_;have hHeld:=(show (fun w'=>aA w' b3 72 #[.int .i64 (j:Nat),.bool po,.bool false,.bool false,.int .i64 0,.bool xs,.bool xe,.slice A3 qs.length c3]∧w'.cell? {block:=(bd.add (i*3)).block,off:=(bd.add (i*3)).off+1}=some (.int .u8 (fa:Nat))∧w'.cell? {block:=(bd.add (i*3)).block,off:=(bd.add (i*3)).off+2}=some (.int .u8 (fb:Nat))) w4.drew from ⟨Uy.out,JV,JW⟩);refine tkX [18] 0 ?_ rfl (Or.inl ⟨by rfl,?_⟩) hHeld ?_;rotate_left
          ·intro w' hSw;obtain ⟨hS1,hS2,ig⟩:=hSw;obtain ⟨y0,y1,y2,y3,y4,y5,y6,y7⟩:=hS1.eight;go_simp
           try with_reducible rfl
          try simp only[Act.put,zzA,zzE,yo,UM,zzD]
          refine tkY 1 ?_ rfl (Or.inl ⟨by rfl,?_⟩) hHeld ?_;rotate_left
          ·intro w' hSw;go_simp
           try with_reducible rfl
          try simp only[Act.put,zzA,zzE,zzF,yo,UM,zzD]
          refine tkY 2 ?_ rfl (Or.inl ⟨by rfl,?_⟩) hHeld ?_;rotate_left
          ·intro w' hSw;go_simp
           try with_reducible rfl
          try simp only[Act.put,zzA,zzE,zzF,yo,UM,zzD]
          refine tkY 3 ?_ rfl (Or.inl ⟨by rfl,?_⟩) hHeld ?_;rotate_left
          ·intro w' hSw;go_simp
           try with_reducible rfl
          try simp only[Act.put,zzA,zzE,zzF,yo,UM,zzD]
          refine tkY 4 ?_ rfl (Or.inl ⟨by rfl,?_⟩) hHeld ?_;rotate_left
          ·intro w' hSw;go_simp
           try with_reducible rfl
          try simp only[Act.put,zzA,zzE,zzF,yo,UM,zzD]
          refine tkX [18] 5 ?_ rfl (Or.inl ⟨by rfl,?_⟩) hHeld ?_;rotate_left
          ·intro w' hSw;obtain ⟨hS1,hS2,ig⟩:=hSw;go_simp
           try with_reducible rfl
          try simp only[Act.put,zzA,zzE,zzF,yo,UM,zzD]
          refine tkY 6 ?_ rfl (Or.inl ⟨by rfl,?_⟩) hHeld ?_;rotate_left
          ·intro w' hSw;go_simp
           try with_reducible rfl
          try simp only[Act.put,zzA,zzE,zzF,yo,UM,zzD]
          refine tkY 7 ?_ rfl (Or.inl ⟨by rfl,?_⟩) hHeld ?_;rotate_left
          ·intro w' hSw;go_simp
           try with_reducible rfl
          try simp only[Act.put,zzA,zzE,zzF,yo,UM,zzD]
          refine tkY 8 ?_ rfl (Or.inl ⟨by rfl,?_⟩) hHeld ?_;rotate_left
          ·intro w' hSw;go_simp
           try with_reducible rfl
          try simp only[Act.put,zzA,zzE,zzF,yo,UM,zzD]
          refine tkY 9 ?_ rfl (Or.inl ⟨by rfl,?_⟩) hHeld ?_;rotate_left
          ·intro w' hSw;go_simp
           try with_reducible rfl
          try simp only[Act.put,zzA,zzE,zzF,yo,UM,zzD]
          refine tkY 10 ?_ rfl (Or.inl ⟨by rfl,?_⟩) hHeld ?_;rotate_left
          ·intro w' hSw;go_simp
           try with_reducible rfl
          try simp only[Act.put,zzA,zzE,zzF,yo,UM,zzD]
          refine tkX [18] 11 ?_ rfl (Or.inl ⟨by rfl,?_⟩) hHeld ?_;rotate_left
          ·intro w' hSw;obtain ⟨hS1,hS2,ig⟩:=hSw;go_simp
           try with_reducible rfl
          try simp only[Act.put,zzA,zzE,zzF,yo,UM,zzD]
          refine tkY 12 ?_ rfl (Or.inl ⟨by rfl,?_⟩) hHeld ?_;rotate_left
          ·intro w' hSw;go_simp
           try with_reducible rfl
          try simp only[Act.put,zzA,zzE,zzF,yo,UM,zzD]
          refine oW (i:=13) (k:=17) rfl rfl (by kernel_rfl) (by rfl) (by rfl) (fun K hK=> ?_) (fun K hK=> ?_)
          ·go_simp;refine (MC.out _ A3 c3 vs3 htl HS4.out).mono ?_;rintro e5 w5 ⟨rfl,hb5⟩;have hsw:(fun w'=>aA w' b3 72 #[.int .i64 (j:Nat),.bool po,.bool false,.bool false,.int .i64 0,.bool xs,.bool xe,.slice A3 qs.length c3]∧w'.cell? {block:=(bd.add (i*3)).block,off:=(bd.add (i*3)).off+1}=some (.int .u8 (fa:Nat))∧w'.cell? {block:=(bd.add (i*3)).block,off:=(bd.add (i*3)).off+2}=some (.int .u8 (fb:Nat))) w5:=⟨Uy.out.below hb5 Uy.out.lt,(hb5.cell (p:=⟨(bd.add (i*3)).block,(bd.add (i*3)).off+1,none⟩) H7).trans JV,(hb5.cell (p:=⟨(bd.add (i*3)).block,(bd.add (i*3)).off+2,none⟩) H7).trans JW⟩;refine hK _ _ hsw ?_;clear hK K hHeld;have hHeld:=hsw
           try simp only[Act.put,zzA,zzE,zzF,yo,UM,zzD]
           refine tkY 14 ?_ rfl (Or.inl ⟨by rfl,?_⟩) hHeld ?_;rotate_left
           ·intro w' hSw;go_simp
            try with_reducible rfl
           try simp only[Act.put,zzA,zzE,zzF,yo,UM,zzD]
           refine tkY 15 ?_ rfl (Or.inl ⟨by rfl,?_⟩) hHeld ?_;rotate_left
           ·intro w' hSw;go_simp
            try with_reducible rfl
           try simp only[Act.put,zzA,zzE,zzF,yo,UM,zzD]
           refine tkY 16 ?_ rfl (Or.inl ⟨by rfl,?_⟩) hHeld ?_;rotate_left
           ·intro w' hSw;go_simp
            try with_reducible rfl
           try simp only[Act.put,zzA,zzE,zzF,yo,UM,zzD]
           refine bu (i:=17) rfl (by kernel_rfl) (by rfl) (fun K hK=> ?_);go_simp;refine hK _ _ ⟨hsw.1.alloc _,(World.cell?_alloc_lt w5 _ ⟨(bd.add (i*3)).block,(bd.add (i*3)).off+1,none⟩ (Nat.lt_of_lt_of_le H7 hb5.size)).trans hsw.2.1,(World.cell?_alloc_lt w5 _ ⟨(bd.add (i*3)).block,(bd.add (i*3)).off+2,none⟩ (Nat.lt_of_lt_of_le H7 hb5.size)).trans hsw.2.2⟩ ?_;clear hK K hHeld
           try simp only[Act.put,zzA,zzE,zzF,yo,UM,zzD]
           have jH:=Lib.hid ((uP.out.drew.trans (hb5.mono uP.out.size)).alloc (Nat.le_trans uP.out.size hb5.size) (.cells #[.int .i64 0,.bool false,.bool false,.bool false,.int .i64 0,.bool false,.bool false,.slice none 0 0] 72));refine aQ (i:=18) rfl (by kernel_rfl) (by kernel_rfl) (by rfl) (fun K hK=> ?_);go_simp;refine hK _ _ ?_;clear hK K
           try simp only[Act.put,zzA,zzE,zzF,yo,UM,zzD]
           refine tkZ 19 ?_ rfl (Or.inl ⟨by rfl,?_⟩) ?_;rotate_left
           ·intro w' hSw;go_simp
            try with_reducible rfl
           try simp only[Act.put,zzA,zzE,zzF,yo,UM,zzD]
           refine aU (by kernel_rfl) ?_ _;refine NoPanic.normal ?_;go_wp2_with fail;go_meet;exact ⟨rfl,jH.out⟩
          ·go_simp;have hsz:(fun w'=>aA w' b3 72 #[.int .i64 (j:Nat),.bool po,.bool false,.bool false,.int .i64 0,.bool xs,.bool xe,.slice A3 qs.length c3]∧w'.cell? {block:=(bd.add (i*3)).block,off:=(bd.add (i*3)).off+1}=some (.int .u8 (fa:Nat))∧w'.cell? {block:=(bd.add (i*3)).block,off:=(bd.add (i*3)).off+2}=some (.int .u8 (fb:Nat))) (w4.drew.alloc (.cells #[.int .i64 0,.bool false,.bool false,.bool false,.int .i64 0,.bool false,.bool false,.slice none 0 0] 72)):=⟨Uy.out.alloc _,(World.cell?_alloc_lt w4.drew _ ⟨(bd.add (i*3)).block,(bd.add (i*3)).off+1,none⟩ H7).trans JV,(World.cell?_alloc_lt w4.drew _ ⟨(bd.add (i*3)).block,(bd.add (i*3)).off+2,none⟩ H7).trans JW⟩;refine hK _ _ hsz ?_;clear hK K hHeld
           try simp only[Act.put,zzA,zzE,zzF,yo,UM,zzD]
           refine bu (i:=13) rfl (by kernel_rfl) (by rfl) (fun K hK=> ?_);go_simp;refine (MC.out _ A3 c3 vs3 htl HSA.out).mono ?_;rintro e5 w5 ⟨rfl,hb5⟩;have hlz:(bd.add (i*3)).block<(w4.drew.alloc (.cells #[.int .i64 0,.bool false,.bool false,.bool false,.int .i64 0,.bool false,.bool false,.slice none 0 0] 72)).heap.size:=by simp;exact Nat.lt_succ_of_lt H7
           have hsw:(fun w'=>aA w' b3 72 #[.int .i64 (j:Nat),.bool po,.bool false,.bool false,.int .i64 0,.bool xs,.bool xe,.slice A3 qs.length c3]∧w'.cell? {block:=(bd.add (i*3)).block,off:=(bd.add (i*3)).off+1}=some (.int .u8 (fa:Nat))∧w'.cell? {block:=(bd.add (i*3)).block,off:=(bd.add (i*3)).off+2}=some (.int .u8 (fb:Nat))) w5:=⟨hsz.1.below hb5 hsz.1.lt,(hb5.cell (p:=⟨(bd.add (i*3)).block,(bd.add (i*3)).off+1,none⟩) hlz).trans hsz.2.1,(hb5.cell (p:=⟨(bd.add (i*3)).block,(bd.add (i*3)).off+2,none⟩) hlz).trans hsz.2.2⟩;refine hK _ _ hsw ?_;clear hK K;have hHeld:=hsw
           try simp only[Act.put,zzA,zzE,zzF,yo,UM,zzD]
           refine tkY 14 ?_ rfl (Or.inl ⟨by rfl,?_⟩) hHeld ?_;rotate_left
           ·intro w' hSw;go_simp
            try with_reducible rfl
           try simp only[Act.put,zzA,zzE,zzF,yo,UM,zzD]
           refine tkY 15 ?_ rfl (Or.inl ⟨by rfl,?_⟩) hHeld ?_;rotate_left
           ·intro w' hSw;go_simp
            try with_reducible rfl
           try simp only[Act.put,zzA,zzE,zzF,yo,UM,zzD]
           refine tkY 16 ?_ rfl (Or.inl ⟨by rfl,?_⟩) hHeld ?_;rotate_left
           ·intro w' hSw;go_simp
            try with_reducible rfl
           try simp only[Act.put,zzA,zzE,zzF,yo,UM,zzD]
           have b5:=HBC.out.below hb5 HBC.out.lt;obtain ⟨z0,z1,z2,z3,z4,z5,z6,z7⟩:=b5.eight;have f0:=b5.frozen 0;have f1:=b5.frozen 1;have f2:=b5.frozen 2;have f3:=b5.frozen 3;have f4:=b5.frozen 4;have f5:=b5.frozen 5;have f6:=b5.frozen 6;have f7:=b5.frozen 7;have jH:=Lib.hid (iG (VC.out.trans (hb5.mono VC.out.size)) uP.out.size (.int .i64 0) (.bool false) (.bool false) (.bool false) (.int .i64 0) (.bool false) (.bool false) (.slice none 0 0));refine aQ (i:=18) rfl (by kernel_rfl) (by kernel_rfl) (by rfl) (fun K hK=> ?_);go_simp;refine hK _ _ ?_;clear hK K
           try simp only[Act.put,zzA,zzE,zzF,yo,UM,zzD]
           refine tkZ 19 ?_ rfl (Or.inl ⟨by rfl,?_⟩) ?_;rotate_left
           ·intro w' hSw;go_simp
            try with_reducible rfl
           try simp only[Act.put,zzA,zzE,zzF,yo,UM,zzD]
           refine aU (by kernel_rfl) ?_ _;refine NoPanic.normal ?_;go_wp2_with fail;go_meet;exact ⟨rfl,jH.out⟩
         case rest=>
          obtain ⟨rfl,Ic⟩:=hcut;have Qg:=Lib.hid Ic;clear Ic;go_wp2_with (go_at_call 11;refine (dQ _ _).mono ?_;rintro e6 w6 ⟨rfl,rfl⟩);go_meet;exact ⟨Xb.out _ Qg.out,Qg.out⟩
       ·have dab:decide (fa<fb)=false:=decide_eq_false hab;go_wp2_with fail;go_meet;exact ⟨Xb.out _ (Below.refl _ wr).drew,(Below.refl _ wr).drew⟩
      case rest=>
       obtain ⟨⟨A7,l7,cp7,bs7,a7,rfl,hd7,hp7,hl7,anw,anx,hs7⟩,hbx⟩:=hcut;have X5:=ru.out.more hbx;have hrc:=X5.recv HS.out PE (by unfold maxLen;omega) (i:Int) (by omega) qb hp7 hd7 A7 l7 cp7 hs7 hl7;have Ij:=Lib.hid hrc;have HZ7:=Lib.hid X5.eH;clear hrc hs7 hp7 hd7 X5 hbx ru Xb My HZ0 hp0 hp1 hp2;go_wp2_with fail;refine Ij.out.mono ?_;rintro e8 w8 ⟨T8,vo8,v8,n8,rfl,Mg,hO8,anA,S7,tC⟩;obtain ⟨R,hR⟩:∃R,bX cR st (i:Int) bs7=R:=⟨_,rfl⟩
       rw[hR] at Mg hO8 S7;obtain ⟨abN,S8⟩:=SX S7.symm.symm;obtain ⟨A8,c8,vs8,rfl,Vw⟩:=hO8.Nh;have T0:=gU HS.out.hs HS.out.le HS.out.ne;obtain ⟨g,hg⟩:∃g,(jN aj (fun i=>(bO sizes aj i).1) st.next).length=g:=⟨_,rfl⟩
       obtain ⟨ad0,rfl⟩:∃ad0,A=some ad0:=by
        have hne:=HS.out.ne 0 hN0;have hl0:(bO sizes aj 0).1=aj:=T0.l0;rw[hl0] at hne;have hpos:=List.length_pos_iff.2 hne;obtain ⟨ad0,e,_⟩:=HH.out.sl.at_ (by have:=iM.out;omega);exact ⟨ad0,e⟩
       rw[hg] at abN S8;have hgl:g+R.2.1.length≤n:=by have:=iM.out;omega
       have MP:=Lib.hid Mg;have HO8:=Lib.hid hO8;have HS8:=Lib.hid Vw;have anC:=Lib.hid S8;have De:=Lib.hid (show (jN aj (fun i=>(bO sizes aj i).1) R.1.next).length=g+R.2.1.length by rw[S7,List.length_append,hg]);have anD:=Vw.sl.cap;have anE:=Vw.sl.mx;have Kt:=(HH.out.below (GK.out.eH.trans ((HZ7.out.trans tC).mono GK.out.eH.size))).more (show w.heap.size≤w8.heap.size from Nat.le_trans GK.out.eH.size Mg.eH.size);have Nz:=wI A8 _ _ c8 _ _ vs8 _ R.2.1 _ w8 Vw (Kt.part hgl);rw[S8,beq_self_eq_true] at Nz;obtain ⟨AA,hif⟩:∃AA,(if c=g then some ad0 else some (ad0.add g))=AA:=⟨_,rfl⟩
       rw[hif] at Nz;have HLI:=Lib.hid Nz;clear Mg hO8 Vw S8 S7 abN Ij hR T0 Kt Nz;have hdn:decide ((n:Int)<(g:Int)+(R.2.1.length:Int))=false:=decide_eq_false (by omega);go_upto_region 20 with fail
       go_cut [149] (fun ag3 wx=>ag3= .bool false∧Below w8.heap.size w8 wx)
       case first=>
        go_wp2_with (first
         |(go_at_call 11;refine (dQ _ _).mono ?_;rintro e9 w9 ⟨rfl,rfl⟩)
         |(go_at_call 21;refine HLI.out.mono ?_;rintro e9 w9 ⟨rfl,oQ⟩))
        all_goals
         go_meet;exact ⟨rfl,oQ⟩
       case rest=>
        obtain ⟨rfl,oQ⟩:=hcut;clear HLI hif hdn;have T0:=gU HS.out.hs HS.out.le HS.out.ne;have xJ:=MP.out.more oQ;have Xd:=xJ.rx.report T0;have R9:(iO R.1).1≤N:=Nat.le_trans Xd.2.1 xJ.rx.s2;have hst:=zT HS.out.hs HS.out.le HS.out.ne HS.out.nil xJ.rx Xd.2.2 R9;obtain ⟨hs1,hs2,hs3,_⟩:=hst;have hsf:=(jI HS.out.hs HS.out.le HS.out.ne N (Nat.le_refl _)).fa;have hso:=(jI HS.out.hs HS.out.le HS.out.ne N (Nat.le_refl _)).out;have hrep:=qN xJ.rc xJ.ok xJ.sz;obtain ⟨Q,hQ⟩:∃Q,iO R.1=Q:=⟨_,rfl⟩
        rw[hQ] at hrep hs1 hs2 hs3;have L6:=Lib.hid hrep;have S9:=Lib.hid oQ;have XX:=Lib.hid hs1;have HSC:=Lib.hid hs2;have Tn:=Lib.hid (Nat.le_trans hs3 (Nat.le_of_eq De.out));have YT:=Lib.hid hsf;have XN:=Lib.hid hso;have EM:=Lib.hid xJ;clear xJ Xd R9 hs1 hs2 hs3 hsf hso hrep hQ T0 oQ;have hgw:IntKind.i64.wrap ((g:Int)+(R.2.1.length:Int))=((g+R.2.1.length:Nat):Int):=by rw[IntKind.wrap_i64];omega
        go_upto_region 24 with (first
         |(go_at_call 10;refine L6.out.mono ?_;rintro e10 EI ⟨X9,c10,rfl,abO,Je,EC⟩))
        have Pz:Below w8.heap.size w8 (EI.alloc (.cells #[.int .i64 (Q.1:Nat),.slice X9 Q.2.length c10] 42)):=(S9.out.trans (EC.mono S9.out.size)).alloc (Nat.le_trans S9.out.size EC.size) _;have Xe:=abO.alloc (.cells #[.int .i64 (Q.1:Nat),.slice X9 Q.2.length c10] 42);have bx:=aA.new EI 42 #[.int .i64 (Q.1:Nat),.slice X9 Q.2.length c10];generalize EI.alloc (.cells #[.int .i64 (Q.1:Nat),.slice X9 Q.2.length c10] 42)=wB at*;generalize EI.heap.size=bq at*;have hval:=jY wB ((Q.1:Nat):Int) X9 _ c10 Q.2 Xe;rw[XX.out] at hval;have abP:=Lib.hid hval;have x0:=bx.cell 0;have x1:=bx.cell 1;have XV:=Lib.hid bx;have abQ:=Lib.hid Xe;have Xf:=Lib.hid Pz;simp at x0 x1;clear hval Xe Pz bx abO Je EC L6 EM S9;go_upto_region 26 with (first
         |(go_at_call 11;refine (dQ _ _).mono ?_;rintro e11 w12 ⟨rfl,rfl⟩)
         |(go_at_call 27;refine abP.out.mono ?_;rintro e12 w12 ⟨rfl,Ey⟩))
        have Mk:=Xf.out.trans (Ey.mono Xf.out.size);have htd:=GK.out.more (MP.out.eH.trans (Mk.mono MP.out.eH.size));have hcp:=SS htd (fun x hx=>by
         rw[XN.out] at hx;obtain ⟨k,_,rfl⟩:=List.mem_map.1 hx;exact Nat.zero_le _)
        have abR:=abQ.out.below Ey;have abS:=XV.out.below Ey XV.out.lt;have Z4:=Lib.hid hcp;have abT:=Lib.hid abR;have PR:=Lib.hid abS;have Xg:=Lib.hid Mk;clear Mk htd hcp abR abS Ey x0 x1 abP abQ XV Xf;go_upto_region 27 with (go_at_call 28;refine Z4.out.mono ?_;rintro e13 X3 ⟨rfl,Ml,abU⟩)
        obtain ⟨S,hS⟩:∃S,eD cS (kM sizes aj N) 0 ((Q.1:Nat):Int) Q.2=S:=⟨_,rfl⟩
        have hst:=JU abU (by omega) YT.out 0 ((Q.1:Nat):Int) (by omega) X9 _ c10 Q.2 (abT.out.below Ml) (fun ad e hn=>by
         obtain ⟨wM,e',hlt,_⟩:=abT.out.at_ hn;rw[e] at e';cases e';exact hlt) XX.out
        have hsc:=HSC.out;have hsd:=Tn.out;rw[hS] at hst hsc hsd;rw[hsc] at hst;have Xh:=PR.out.below Ml PR.out.lt;have x0:=Xh.cell 0;have x1:=Xh.cell 1;simp at x0 x1;have hdd:decide ((g:Int)+(R.2.1.length:Int)<(S.1.done:Int))=false:=decide_eq_false (by omega);have HST:=Lib.hid hst;have abV:=Lib.hid (Xg.out.trans (Ml.mono Xg.out.size));have X7:=Lib.hid (fun (W:World) (hW:TD w12 (fun _=>False) cS w12.heap.size S.1 (3*N+3) W)=>Gi hW);unfold TJ at X7;have Sm:=Xg.out.size;have ag4:=Lib.hid Sm;clear hst hsc hsd hS Xh Ml abU Z4 Sm YT XN HSC Tn XX PR;go_wp2_with (first
         |(go_at_call 11;refine (dQ _ _).mono ?_;rintro e11 w17 ⟨rfl,rfl⟩)
         |(go_at_call 20;refine HST.out.mono ?_;rintro e14 w14 ⟨rfl,Ta⟩)
         |(go_at_call 22;refine (X7.out _ Ta.td).mono ?_;rintro e15 w15 ⟨rfl,SF⟩))
        all_goals
         have PD:Below w8.heap.size w8 w15:=(abV.out.trans (Ta.eH.mono ag4.out)).trans (SF.mono (Nat.le_trans abV.out.size Ta.sz));have ag5:=Lib.hid (MP.out.more PD);clear PD SF Ta
         go_roundg (P-(i+1))
         case measure=>rw[KA.out];omega
         case rel=>exact ⟨i+1,T8,n8,R.1,vo8,by omega,by omega,by omega,by go_num,by rw[De.out,Int.natCast_add],ag5.out⟩
    ·go_upto_region 9 with (fail)
     go_cut [60] (fun s60 wx=>s60= .bool false∧wx=wr)
     case first=>
      by_cases hlt:i<P
      ·have hN0:N=0:=by omega
       subst hN0;go_wp2_with fail;go_meet;exact ⟨rfl,rfl⟩
      ·have hlt':decide ((i:Int)<(P:Int))=false:=decide_eq_false (by omega);go_wp2_with fail;go_meet;exact ⟨rfl,rfl⟩
     case rest=>
      obtain ⟨rfl,rfl⟩:=hcut;go_wp2_with (go_at_call 7;refine (jw _).mono ?_;rintro e10 EI ⟨rfl,EC⟩);go_ret;have hb0:=GK.out.eH.trans (ru.out.eH.mono GK.out.eH.size);exact ⟨rfl,hb0.trans (EC.mono hb0.size)⟩
end
section
open Go.ChangeShapes Go.WideShapes Go.ChangeAt Go.RowKit Go.Deep Go.Joins
section
variable {H:Type} {enc:TypeId × Value→H} {w:World} {base:Nat} {spare:Nat→Bool} {held:Bool}
theorem JX:Tryz.prog.cellsOf 68=3:=by kernel_rfl
theorem PS:Tryz.prog.cellsOf 5=1:=by kernel_rfl
set_option maxRecDepth 100000 in
theorem ED {fuel:Nat} {c:Value} {x:DataW H × List MemPlace} (h:DataW.trod enc Tryz.prog w base spare held fuel 5 [c]=some x):∃y:UInt8,c= .int .u8 (y.toNat:Nat):=by
 obtain ⟨k,e,_,hw⟩:=DataW.trod_int Tryz.underlying5 h;simp at e;subst e;have hb:=bounds_u8 hw;refine ⟨UInt8.ofNat k.toNat,?_⟩
 congr 1
 rw[UInt8.toNat_ofNat'];omega
set_option maxRecDepth 100000 in
theorem ME {fuel:Nat} {c0 c1 c2:Value} {x:DataW H × List MemPlace} (h:DataW.trod enc Tryz.prog w base spare held fuel 68 [c0,c1,c2]=some x):
 ∃y0 y1 y2:UInt8,c0= .int .u8 (y0.toNat:Nat)∧c1= .int .u8 (y1.toNat:Nat)∧c2= .int .u8 (y2.toNat:Nat):=by
 obtain ⟨xs,m,rfl,rfl,_,hl,hx⟩:=DataW.trod_array Tryz.underlying68 h;have h0:=hx 0 (by omega);have h1:=hx 1 (by omega);have h2:=hx 2 (by omega);rw[PS] at h0 h1 h2;rw[List.getElem?_eq_getElem (by omega)] at h0 h1 h2;obtain ⟨y0,e0⟩:=ED (by simpa using h0);obtain ⟨y1,e1⟩:=ED (by simpa using h1);obtain ⟨y2,e2⟩:=ED (by simpa using h2);exact ⟨y0,y1,y2,e0,e1,e2⟩
set_option maxRecDepth 100000 in
theorem Hg {fuel:Nat} {v:Value} {x:DataW H × List MemPlace} (h:DataW.trod enc Tryz.prog w base spare held fuel 67 [v]=some x):
 ∃(A:Option Addr) (n c:Nat) (l:List (UInt8 × UInt8 × UInt8)),v= .slice A n c∧X8 w w.heap.size A n c l:=by
 rcases open_slice Tryz.underlying67 h with ⟨hcs,_⟩|⟨a,len,cap,m,n,D,Pl,hcs,_,hl,hm,hmm,_,hx⟩
 ·simp at hcs;subst hcs;exact ⟨none,0,0,[],rfl,⟨rfl,by omega,by omega,fun h=>by omega⟩⟩
 ·simp at hcs;subst hcs;have hlm:len≤m:=by rw[hmm];split<;>omega
  have key:∀i,∃y:UInt8 × UInt8 × UInt8,i<len→w.cell? (a.add (i*3))=some (.int .u8 (y.1.toNat:Nat))∧w.cell? (a.add (i*3+1))=some (.int .u8 (y.2.1.toNat:Nat))∧w.cell? (a.add (i*3+2))=some (.int .u8 (y.2.2.toNat:Nat)):=by
   intro i;by_cases hi:i<len
   ·obtain ⟨cs',hc,ht⟩:=hx i (by omega);rw[JX] at hc;obtain ⟨_,hcl,hat⟩:=World.cells?_some hc
    match cs',hcl with
    | [c0,c1,c2],_=>
     obtain ⟨y0,y1,y2,rfl,rfl,rfl⟩:=ME ht;have a0:=hat 0 (by omega);have a1:=hat 1 (by omega);have a2:=hat 2 (by omega);rw[Go.Deep.add_add] at a0 a1 a2;exact ⟨(y0,y1,y2),fun _=>⟨a0,a1,a2⟩⟩
   ·exact ⟨(0,0,0),fun h=>absurd h hi⟩
  have ⟨L,hL⟩:=Classical.axiomOfChoice key;refine ⟨some a,len,cap,(List.range len).map L,rfl,⟨by simp,hl,hm,fun hpos=>⟨a,rfl,?_,fun j u hu=> ?_⟩⟩⟩
  ·have:=World.block_lt_of_cell? w _ (hL 0 hpos).1
   rwa [block_add] at this
  ·have hj:j<len:=by
    have:=(List.getElem?_eq_some_iff.1 hu).1;simpa using this
   simp[hj] at hu;subst hu;exact hL j hj
set_option maxRecDepth 100000 in
theorem JY {r:Reach} {b0:Nat} {v:Value} {d:DataW H} {p:List MemPlace} (hv:Value.okWide Tryz.prog w r b0 67 v) (h:DataW.Trod enc Tryz.prog w base spare held 67 v d p):
 ∃(A:Option Addr) (n c:Nat) (l:List (UInt8 × UInt8 × UInt8)),v= .slice A n c∧X8 w w.heap.size A n c l:=by
 obtain ⟨A,n,c,rfl⟩:=okWide_slice Tryz.underlying67 hv;obtain ⟨fuel,hf⟩:=h;obtain ⟨A2,n2,c2,l,hv2,hh⟩:=Hg (by simpa[Value.cells] using hf);cases hv2;exact ⟨A,n,c,l,rfl,hh⟩
end
end
end Go.Proofs.YtiecgfahidpldaaGreat
