/- status.Valid. -/
import Derived.Test.YtbhiklnljiehiaaGreatM2ao
import Derived.Test.YtbhiklnljiehiaaGreatM2av
namespace Go.Proofs.YtbhiklnljiehiaaGreat
section
open Go.RowKit
attribute [local go_sem] Oper.semAt_some
structure bM (w:World) (A:Option Addr) (n c:Nat) (l:List Nk):Prop where
 len:l.length=n
 cap:n≤c
 mx:c≤9223372036854775807
 at_:0<n→∃ad,A=some ad∧ad.block<w.heap.size∧∀j r,l[j]? =some r→w.cell? (ad.add (j*4))=some (.int .i64 r.sn)∧w.cell? ⟨(ad.add (j*4)).block,(ad.add (j*4)).off+1,none⟩=some (.bool r.part)∧w.cell? ⟨(ad.add (j*4)).block,(ad.add (j*4)).off+2,none⟩=some (.int .i64 r.fr)∧w.cell? ⟨(ad.add (j*4)).block,(ad.add (j*4)).off+3,none⟩=some (.int .i64 r.lt)
theorem bM.below {w w':World} {A:Option Addr} {n c:Nat} {l:List Nk} (h:bM w A n c l) (hb:Below w.heap.size w w'):bM w' A n c l:=
 ⟨h.len,h.cap,h.mx,fun hn=>by
  obtain ⟨ad,e,hlt,hc⟩:=h.at_ hn;refine ⟨ad,e,Nat.lt_of_lt_of_le hlt hb.size,fun j r hr=> ?_⟩;obtain ⟨k0,k1,k2,k3⟩:=hc j r hr;have hbk:(ad.add (j*4)).block<w.heap.size:=by rw[block_add];exact hlt
  exact ⟨(hb.cell hbk).trans k0,(hb.cell (p:=⟨(ad.add (j*4)).block,_,none⟩) hbk).trans k1,(hb.cell (p:=⟨(ad.add (j*4)).block,_,none⟩) hbk).trans k2,(hb.cell (p:=⟨(ad.add (j*4)).block,_,none⟩) hbk).trans k3⟩⟩
theorem bM.drewN {w:World} {A:Option Addr} {n c:Nat} {l:List Nk} (h:bM w A n c l) (k:Nat):bM (w.drewN k) A n c l:=h.below ((Below.refl _ w).drewN k)
theorem bM.alloc {w:World} {A:Option Addr} {n c:Nat} {l:List Nk} (h:bM w A n c l) (o:Obj):bM (w.alloc o) A n c l:=h.below ((Below.refl _ w).alloc (aN) o)
def RX (aL:Int) (l:List Nk) (k:Nat):Prop:=∀n,l[k]? =some n→iD aL n=true∧∀m,0<k→l[k-1]? =some m→lD aL m n=true
theorem jU (aL:Int):∀l:List Nk,rW aL l=true↔∀k,RX aL l k
 | []=>by simp[rW,RX]
 | [n]=>by
  simp only[rW,RX];constructor
  ·intro h k m hm;cases k with
   |zero=>simp at hm;subst hm;exact ⟨h,fun _ h0=>by omega⟩
   |succ k=>simp at hm
  ·intro h;exact (h 0 n rfl).1
 |a::b::r=>by
  have ih:=jU aL (b::r);simp only[rW,Bool.and_eq_true,ih];constructor
  ·rintro ⟨h1,h2,h3⟩ k n hn;cases k with
   |zero=>simp at hn;subst hn;exact ⟨h1,fun _ h0=>by omega⟩
   |succ k=>
    have h4:=h3 k n (by simpa using hn);refine ⟨h4.1,fun m _ hm=> ?_⟩;cases k with
    |zero=>simp at hn hm;subst hn hm;exact h2
    |succ k=>exact h4.2 m (by omega) (by simpa using hm)
  ·intro h;refine ⟨(h 0 a rfl).1,(h 1 b rfl).2 a (by omega) rfl,fun k n hn=> ?_⟩;have h4:=h (k+1) n (by simpa using hn);refine ⟨h4.1,fun m h0 hm=>h4.2 m (by omega) ?_⟩;rw[show k+1-1=(k-1)+1 by omega];simpa using hm
section
variable (w:World)
set_option maxRecDepth 10000 in
set_option maxHeartbeats 8000000 in
theorem jV (aL:Int) (A:Option Addr) (n c:Nat) (l:List Nk) (h:bM w A n c l):
 Calls Tryz.prog 119 #[.agg #[.int .i64 aL,.slice A n c]] w fun e w'=>e= .returned (.bool (dm aL l))∧Below w.heap.size w w':=by
 have hlen:=h.len;have hcap:=h.cap;have hmx:=h.mx;obtain ⟨R,hR⟩:∃R,dm aL l=R:=⟨_,rfl⟩
 rw[hR];have HR:=ah hR;clear hR;by_cases h0:0≤aL
 ·have d0:decide (aL<0)=false:=decide_eq_false (by omega);by_cases h1:aL≤1023
  ·have d1:decide (1023<aL)=false:=decide_eq_false (by omega);by_cases h5:n≤512
   ·have hR2:rW aL l=R:=by rw[←HR.out];simp[dm,hlen,h0,h1,h5]
    have HR2:=ah hR2;have HL:=ah hlen;have HN:=ah (h.alloc (.cells #[.int .i64 aL,.slice A n c] 133));have hbk:=au.new w 133 #[.int .i64 aL,.slice A n c];have UB:=ah hbk;have Bg:=ah ((Below.refl w.heap.size w).alloc (aN) (.cells #[.int .i64 aL,.slice A n c] 133));clear h hR2 hbk hlen;go_enter Tryz.func119,Tryz.ntmps119;go_wp2;have hz:=World.size_alloc w (.cells #[.int .i64 aL,.slice A n c] 133);have HZ:=ah hz;clear hz;generalize w.alloc (.cells #[.int .i64 aL,.slice A n c] 133)=w0 at*
    go_loopw [22] (fun i wr=>∃k:Nat,k≤n∧i= .int .i64 k∧Below w0.heap.size w0 wr∧∀j,j<k→RX aL l j) (fun i _=>n-(intOf i).toNat)
    case atStart=>exact ⟨0,Nat.zero_le _,rfl,Below.refl _ _,fun j hj=>by omega⟩
    case round=>
     obtain ⟨k,hk,rfl,hb,hall⟩:=hrel;have mZ:=ah hall;clear hall;by_cases hlt:k<n
     ·obtain ⟨x,hx⟩:∃x,l[k]? =some x:=⟨_,List.getElem?_eq_getElem (by have:=HL.out;omega)⟩
      obtain ⟨ad,rfl,Bh,hcl⟩:=(HN.out.below hb).at_ (by omega);obtain ⟨k0,k1,k2,k3⟩:=hcl k x hx;have HX:=ah hx;have pV:=ah hcl;have hbw:w.heap.size<w0.heap.size:=UB.out.lt;have b0:=(UB.out.below hb hbw).alloc (.cells (j6 x) 197);have b1:=au.new wr 197 (j6 x);have hbW:Below w0.heap.size w0 (wr.alloc (.cells (j6 x) 197)):=hb.alloc hb.size _;have z0:(wr.alloc (.cells (j6 x) 197)).cell? ⟨w.heap.size,0,none⟩=some (.int .i64 aL):=b0.cell 0;have z1:(wr.alloc (.cells (j6 x) 197)).cell? ⟨w.heap.size,1,none⟩=some (.slice (some ad) n c):=b0.cell 1;have y0:(wr.alloc (.cells (j6 x) 197)).cell? ⟨wr.heap.size,0,none⟩=some (.int .i64 x.sn):=b1.cell 0;have y1:(wr.alloc (.cells (j6 x) 197)).cell? ⟨wr.heap.size,1,none⟩=some (.bool x.part):=b1.cell 1;have y2:(wr.alloc (.cells (j6 x) 197)).cell? ⟨wr.heap.size,2,none⟩=some (.int .i64 x.fr):=b1.cell 2;have y3:(wr.alloc (.cells (j6 x) 197)).cell? ⟨wr.heap.size,3,none⟩=some (.int .i64 x.lt):=b1.cell 3;have hlt1:wr.heap.size<(wr.alloc (.cells (j6 x) 197)).heap.size:=by simp
      have Zr:w.heap.size<(wr.alloc (.cells (j6 x) 197)).heap.size:=b0.lt;have hal:=fun (W:World)=>yU W aL x
      have r9:=ah hal;have HNW:=ah ((HN.out.below hbW));clear b0 b1 hx hcl hal;unfold j6 at*;go_upto_region 6 with (fail)
      generalize wr.alloc (.cells #[.int .i64 x.sn,.bool x.part,.int .i64 x.fr,.int .i64 x.lt] 197)=w1 at*;clear k0 k1 k2 k3;cases hA:iD aL x with
      |false=>
       rw[hA] at r9;have RY:R=false:=by
        rw[←HR2.out,←Bool.not_eq_true,jU];intro hh;have:=(hh k x HX.out).1;rw[hA] at this;cases this
       subst RY;have HA:=ah hA;clear hA;refine aZ (fun w'=>w'.cell? ⟨w.heap.size,0,none⟩=some (.int .i64 aL)∧w'.cell? ⟨w.heap.size,1,none⟩=some (.slice (some ad) n c)∧w'.cell? ⟨wr.heap.size,0,none⟩=some (.int .i64 x.sn)∧w'.cell? ⟨wr.heap.size,1,none⟩=some (.bool x.part)∧w'.cell? ⟨wr.heap.size,2,none⟩=some (.int .i64 x.fr)∧w'.cell? ⟨wr.heap.size,3,none⟩=some (.int .i64 x.lt)) [3] (by kernel_rfl) ?_;have hHeld:=(show w1.drew.cell? ⟨w.heap.size,0,none⟩=some (.int .i64 aL)∧w1.drew.cell? ⟨w.heap.size,1,none⟩=some (.slice (some ad) n c)∧w1.drew.cell? ⟨wr.heap.size,0,none⟩=some (.int .i64 x.sn)∧w1.drew.cell? ⟨wr.heap.size,1,none⟩=some (.bool x.part)∧w1.drew.cell? ⟨wr.heap.size,2,none⟩=some (.int .i64 x.fr)∧w1.drew.cell? ⟨wr.heap.size,3,none⟩=some (.int .i64 x.lt) from ⟨z0,z1,y0,y1,y2,y3⟩);refine aY 0 rfl hHeld ?_
       try simp only[Act.put,aB,aC,ax,ay,aA]
       refine gV [3] 1 ?_ rfl (Or.inl ⟨by rfl,?_⟩) hHeld ?_;rotate_left
       ·intro w' hSw;obtain ⟨hS1,hS2,gH,kS,hS5,nA⟩:=hSw;go_simp
        try with_reducible rfl
       try simp only[Act.put,aB,aC,aD,ax,ay,aA]
       refine gV [3] 2 ?_ rfl (Or.inl ⟨by rfl,?_⟩) hHeld ?_;rotate_left
       ·intro w' hSw;obtain ⟨hS1,hS2,gH,kS,hS5,nA⟩:=hSw;go_simp
        try with_reducible rfl
       try simp only[Act.put,aB,aC,aD,ax,ay,aA]
       refine bD (i:=3) rfl (by kernel_rfl) (by kernel_rfl) (by rfl) (fun K hK=> ?_);go_simp;refine (r9.out _).mono ?_;rintro e1 w2 ⟨rfl,hb1⟩;refine hK _ _ ?_;clear hK K
       try simp only[Act.put,aB,aC,aD,ax,ay,aA]
       refine qT 4 rfl ?_
       try simp only[Act.put,aB,aC,aD,ax,ay,aA]
       refine qT 5 rfl ?_
       try simp only[Act.put,aB,aC,aD,ax,ay,aA]
       refine wM 6 rfl ?_
       try simp only[Act.put,aB,aC,aD,ax,ay,aA]
       refine wM 7 rfl ?_
       try simp only[Act.put,aB,aC,aD,ax,ay,aA]
       refine wM 8 rfl ?_
       try simp only[Act.put,aB,aC,aD,ax,ay,aA]
       refine wM 9 rfl ?_
       try simp only[Act.put,aB,aC,aD,ax,ay,aA]
       refine wM 10 rfl ?_
       try simp only[Act.put,aB,aC,aD,ax,ay,aA]
       refine wM 11 rfl ?_
       try simp only[Act.put,aB,aC,aD,ax,ay,aA]
       refine wM 12 rfl ?_
       try simp only[Act.put,aB,aC,aD,ax,ay,aA]
       refine wM 13 rfl ?_
       try simp only[Act.put,aB,aC,aD,ax,ay,aA]
       refine wM 14 rfl ?_
       try simp only[Act.put,aB,aC,aD,ax,ay,aA]
       refine wM 15 rfl ?_
       try simp only[Act.put,aB,aC,aD,ax,ay,aA]
       refine wM 16 rfl ?_
       try simp only[Act.put,aB,aC,aD,ax,ay,aA]
       refine wM 17 rfl ?_
       try simp only[Act.put,aB,aC,aD,ax,ay,aA]
       refine wM 18 rfl ?_
       try simp only[Act.put,aB,aC,aD,ax,ay,aA]
       refine wM 19 rfl ?_
       try simp only[Act.put,aB,aC,aD,ax,ay,aA]
       refine wM 20 rfl ?_
       try simp only[Act.put,aB,aC,aD,ax,ay,aA]
       refine qT 21 rfl ?_
       try simp only[Act.put,aB,aC,aD,ax,ay,aA]
       refine bu (by kernel_rfl) ?_ _;go_wp2;go_ret;exact ⟨rfl,Bg.out.trans (hbW.drew.trans (hb1.mono hbW.drew.size) |>.mono Bg.out.size)⟩
      |true=>
       rw[hA] at r9;have HA:=ah hA;clear hA;by_cases hk0:k=0
       ·subst hk0;refine aZ (fun w'=>w'.cell? ⟨w.heap.size,0,none⟩=some (.int .i64 aL)∧w'.cell? ⟨w.heap.size,1,none⟩=some (.slice (some ad) n c)∧w'.cell? ⟨wr.heap.size,0,none⟩=some (.int .i64 x.sn)∧w'.cell? ⟨wr.heap.size,1,none⟩=some (.bool x.part)∧w'.cell? ⟨wr.heap.size,2,none⟩=some (.int .i64 x.fr)∧w'.cell? ⟨wr.heap.size,3,none⟩=some (.int .i64 x.lt)) [3] (by kernel_rfl) ?_;have hHeld:=(show w1.drew.cell? ⟨w.heap.size,0,none⟩=some (.int .i64 aL)∧w1.drew.cell? ⟨w.heap.size,1,none⟩=some (.slice (some ad) n c)∧w1.drew.cell? ⟨wr.heap.size,0,none⟩=some (.int .i64 x.sn)∧w1.drew.cell? ⟨wr.heap.size,1,none⟩=some (.bool x.part)∧w1.drew.cell? ⟨wr.heap.size,2,none⟩=some (.int .i64 x.fr)∧w1.drew.cell? ⟨wr.heap.size,3,none⟩=some (.int .i64 x.lt) from ⟨z0,z1,y0,y1,y2,y3⟩);refine aY 0 rfl hHeld ?_
        try simp only[Act.put,aB,aC,ax,ay,aA]
        refine gV [3] 1 ?_ rfl (Or.inl ⟨by rfl,?_⟩) hHeld ?_;rotate_left
        ·intro w' hSw;obtain ⟨hS1,hS2,gH,kS,hS5,nA⟩:=hSw;go_simp
         try with_reducible rfl
        try simp only[Act.put,aB,aC,aD,ax,ay,aA]
        refine gV [3] 2 ?_ rfl (Or.inl ⟨by rfl,?_⟩) hHeld ?_;rotate_left
        ·intro w' hSw;obtain ⟨hS1,hS2,gH,kS,hS5,nA⟩:=hSw;go_simp
         try with_reducible rfl
        try simp only[Act.put,aB,aC,aD,ax,ay,aA]
        refine bD (i:=3) rfl (by kernel_rfl) (by kernel_rfl) (by rfl) (fun K hK=> ?_);go_simp;refine (r9.out _).mono ?_;rintro e1 w2 ⟨rfl,hb1⟩;refine hK _ _ ?_;clear hK K
        try simp only[Act.put,aB,aC,aD,ax,ay,aA]
        refine qT 4 rfl ?_
        try simp only[Act.put,aB,aC,aD,ax,ay,aA]
        refine qT 5 rfl ?_
        try simp only[Act.put,aB,aC,aD,ax,ay,aA]
        refine qT 6 rfl ?_
        try simp only[Act.put,aB,aC,aD,ax,ay,aA]
        refine qT 7 rfl ?_
        try simp only[Act.put,aB,aC,aD,ax,ay,aA]
        refine qT 8 rfl ?_
        try simp only[Act.put,aB,aC,aD,ax,ay,aA]
        refine wM 9 rfl ?_
        try simp only[Act.put,aB,aC,aD,ax,ay,aA]
        refine wM 10 rfl ?_
        try simp only[Act.put,aB,aC,aD,ax,ay,aA]
        refine wM 11 rfl ?_
        try simp only[Act.put,aB,aC,aD,ax,ay,aA]
        refine wM 12 rfl ?_
        try simp only[Act.put,aB,aC,aD,ax,ay,aA]
        refine wM 13 rfl ?_
        try simp only[Act.put,aB,aC,aD,ax,ay,aA]
        refine wM 14 rfl ?_
        try simp only[Act.put,aB,aC,aD,ax,ay,aA]
        refine wM 15 rfl ?_
        try simp only[Act.put,aB,aC,aD,ax,ay,aA]
        refine wM 16 rfl ?_
        try simp only[Act.put,aB,aC,aD,ax,ay,aA]
        refine wM 17 rfl ?_
        try simp only[Act.put,aB,aC,aD,ax,ay,aA]
        refine wM 18 rfl ?_
        try simp only[Act.put,aB,aC,aD,ax,ay,aA]
        refine wM 19 rfl ?_
        try simp only[Act.put,aB,aC,aD,ax,ay,aA]
        refine qT 20 rfl ?_
        try simp only[Act.put,aB,aC,aD,ax,ay,aA]
        refine qT 21 rfl ?_
        try simp only[Act.put,aB,aC,aD,ax,ay,aA]
        refine bu (by kernel_rfl) ?_ _;go_wp2
        go_roundw
        case rel=>
         refine ⟨1,by omega,rfl,hbW.drew.trans (hb1.mono hbW.drew.size),fun j hj m hm=> ?_⟩;obtain rfl:j=0:=by omega
         rw[HX.out] at hm;cases hm;exact ⟨HA.out,fun _ h0=>by omega⟩
        case measure=>simp[intOf];omega
       ·obtain ⟨k,rfl⟩:∃k',k=k'+1:=⟨k-1,by omega⟩
        obtain ⟨m,hm⟩:∃m,l[k]? =some m:=⟨_,List.getElem?_eq_getElem (by have:=HL.out;omega)⟩
        obtain ⟨yu,aeh,Zs,Zt⟩:=HNW.out.at_ (by omega);cases aeh;obtain ⟨m0,m1,m2,m3⟩:=Zt k m hm;have hS:∀W,Below w1.heap.size w1 W→W.cell? ⟨w.heap.size,0,none⟩=some (.int .i64 aL)∧W.cell? ⟨w.heap.size,1,none⟩=some (.slice (some ad) n c)∧W.cell? ⟨wr.heap.size,0,none⟩=some (.int .i64 x.sn)∧W.cell? ⟨wr.heap.size,1,none⟩=some (.bool x.part)∧W.cell? ⟨wr.heap.size,2,none⟩=some (.int .i64 x.fr)∧W.cell? ⟨wr.heap.size,3,none⟩=some (.int .i64 x.lt)∧W.cell? (ad.add (k*4))=some (.int .i64 m.sn)∧W.cell? ⟨(ad.add (k*4)).block,(ad.add (k*4)).off+1,none⟩=some (.bool m.part)∧W.cell? ⟨(ad.add (k*4)).block,(ad.add (k*4)).off+2,none⟩=some (.int .i64 m.fr)∧W.cell? ⟨(ad.add (k*4)).block,(ad.add (k*4)).off+3,none⟩=some (.int .i64 m.lt):=fun W hW=>by
         have hbk:(ad.add (k*4)).block<w1.heap.size:=by rw[block_add];exact Zs
         exact ⟨(hW.cell (p:=⟨w.heap.size,0,none⟩) Zr).trans z0,(hW.cell (p:=⟨w.heap.size,1,none⟩) Zr).trans z1,(hW.cell (p:=⟨wr.heap.size,0,none⟩) hlt1).trans y0,(hW.cell (p:=⟨wr.heap.size,1,none⟩) hlt1).trans y1,(hW.cell (p:=⟨wr.heap.size,2,none⟩) hlt1).trans y2,(hW.cell (p:=⟨wr.heap.size,3,none⟩) hlt1).trans y3,
          (hW.cell hbk).trans m0,(hW.cell (p:=⟨(ad.add (k*4)).block,_,none⟩) hbk).trans m1,(hW.cell (p:=⟨(ad.add (k*4)).block,_,none⟩) hbk).trans m2,(hW.cell (p:=⟨(ad.add (k*4)).block,_,none⟩) hbk).trans m3⟩
        have HS:=ah hS;have hfo:=fun (W:World)=>ug W aL m x
        have QV:=ah hfo;have HM:=ah hm;have hkn:(k:Int)<n:=by omega
        have aj7:(0:Int)≤k:=by omega
        have hwk:IntKind.i64.wrap (k:Int)=(k:Int):=IntWalk.i64_in _ (by omega);clear hS hfo hm Zt m0 m1 m2 m3 z0 z1 y0 y1 y2 y3;unfold j6 at QV;cases hF:lD aL m x with
        |false=>
         rw[hF] at QV;have RY:R=false:=by
          rw[←HR2.out,←Bool.not_eq_true,jU];intro hh;have:=(hh (k+1) x HX.out).2 m (by omega) HM.out;rw[hF] at this;cases this
         subst RY;have HF:=ah hF;clear hF;refine aZ (fun w'=>w'.cell? ⟨w.heap.size,0,none⟩=some (.int .i64 aL)∧w'.cell? ⟨w.heap.size,1,none⟩=some (.slice (some ad) n c)∧w'.cell? ⟨wr.heap.size,0,none⟩=some (.int .i64 x.sn)∧w'.cell? ⟨wr.heap.size,1,none⟩=some (.bool x.part)∧w'.cell? ⟨wr.heap.size,2,none⟩=some (.int .i64 x.fr)∧w'.cell? ⟨wr.heap.size,3,none⟩=some (.int .i64 x.lt)∧w'.cell? (ad.add (k*4))=some (.int .i64 m.sn)∧w'.cell? ⟨(ad.add (k*4)).block,(ad.add (k*4)).off+1,none⟩=some (.bool m.part)∧w'.cell? ⟨(ad.add (k*4)).block,(ad.add (k*4)).off+2,none⟩=some (.int .i64 m.fr)∧w'.cell? ⟨(ad.add (k*4)).block,(ad.add (k*4)).off+3,none⟩=some (.int .i64 m.lt)) [18] (by kernel_rfl) ?_;have hHeld:=HS.out _ (Below.refl w1.heap.size w1).drew;refine aY 0 rfl hHeld ?_
         try simp only[Act.put,aB,aC,ax,ay,aA]
         refine gV [18,8,5,4,3] 1 ?_ rfl (Or.inl ⟨by rfl,?_⟩) hHeld ?_;rotate_left
         ·intro w' hSw;obtain ⟨hS1,hS2,gH,kS,hS5,nA,rC,tu,tC,iF⟩:=hSw;go_simp
          try with_reducible rfl
         try simp only[Act.put,aB,aC,aD,ax,ay,aA]
         refine gV [18,8,5,4,3] 2 ?_ rfl (Or.inl ⟨by rfl,?_⟩) hHeld ?_;rotate_left
         ·intro w' hSw;obtain ⟨hS1,hS2,gH,kS,hS5,nA,rC,tu,tC,iF⟩:=hSw;go_simp
          try with_reducible rfl
         try simp only[Act.put,aB,aC,aD,ax,ay,aA]
         refine aR (i:=3) rfl (by kernel_rfl) (by rfl) (fun K hK=> ?_);go_simp;refine (r9.out _).mono ?_;rintro e1 w2 ⟨rfl,hb1⟩;have hbx:Below w1.heap.size w1 w2:=(Below.refl w1.heap.size w1).drew.trans hb1;refine hK _ _ (HS.out _ hbx) ?_;clear hK K hHeld;have hHeld:=(HS.out _ hbx)
         try simp only[Act.put,aB,aC,aD,ax,ay,aA]
         refine aY 4 rfl hHeld ?_
         try simp only[Act.put,aB,aC,aD,ax,ay,aA]
         refine aY 5 rfl hHeld ?_
         try simp only[Act.put,aB,aC,aD,ax,ay,aA]
         refine aY 6 rfl hHeld ?_
         try simp only[Act.put,aB,aC,aD,ax,ay,aA]
         refine aY 7 rfl hHeld ?_
         try simp only[Act.put,aB,aC,aD,ax,ay,aA]
         refine aY 8 rfl hHeld ?_
         try simp only[Act.put,aB,aC,aD,ax,ay,aA]
         refine aY 9 rfl hHeld ?_
         try simp only[Act.put,aB,aC,aD,ax,ay,aA]
         refine gV [18] 10 ?_ rfl (Or.inl ⟨by rfl,?_⟩) hHeld ?_;rotate_left
         ·intro w' hSw;obtain ⟨hS1,hS2,gH,kS,hS5,nA,rC,tu,tC,iF⟩:=hSw;go_simp
          try with_reducible rfl
         try simp only[Act.put,aB,aC,aD,ax,ay,aA]
         refine aY 11 rfl hHeld ?_
         try simp only[Act.put,aB,aC,aD,ax,ay,aA]
         refine gV [18,16,15] 12 ?_ rfl (Or.inl ⟨by rfl,?_⟩) hHeld ?_;rotate_left
         ·intro w' hSw;obtain ⟨hS1,hS2,gH,kS,hS5,nA,rC,tu,tC,iF⟩:=hSw;go_simp
          try with_reducible rfl
         try simp only[Act.put,aB,aC,aD,ax,ay,aA]
         refine aY 13 rfl hHeld ?_
         try simp only[Act.put,aB,aC,aD,ax,ay,aA]
         refine aY 14 rfl hHeld ?_
         try simp only[Act.put,aB,aC,aD,ax,ay,aA]
         refine aY 15 rfl hHeld ?_
         try simp only[Act.put,aB,aC,aD,ax,ay,aA]
         refine gV [18] 16 ?_ rfl (Or.inl ⟨by rfl,?_⟩) hHeld ?_;rotate_left
         ·intro w' hSw;obtain ⟨hS1,hS2,gH,kS,hS5,nA,rC,tu,tC,iF⟩:=hSw;go_simp
          try with_reducible rfl
         try simp only[Act.put,aB,aC,aD,ax,ay,aA]
         refine gV [18] 17 ?_ rfl (Or.inl ⟨by rfl,?_⟩) hHeld ?_;rotate_left
         ·intro w' hSw;obtain ⟨hS1,hS2,gH,kS,hS5,nA,rC,tu,tC,iF⟩:=hSw;go_simp
          try with_reducible rfl
         try simp only[Act.put,aB,aC,aD,ax,ay,aA]
         refine bD (i:=18) rfl (by kernel_rfl) (by kernel_rfl) (by rfl) (fun K hK=> ?_);go_simp;refine (QV.out _).mono ?_;rintro e2 w3 ⟨rfl,hb2⟩;refine hK _ _ ?_;clear hK K
         try simp only[Act.put,aB,aC,aD,ax,ay,aA]
         refine qT 19 rfl ?_
         try simp only[Act.put,aB,aC,aD,ax,ay,aA]
         refine qT 20 rfl ?_
         try simp only[Act.put,aB,aC,aD,ax,ay,aA]
         refine qT 21 rfl ?_
         try simp only[Act.put,aB,aC,aD,ax,ay,aA]
         refine bu (by kernel_rfl) ?_ _;clear hwk;go_wp2;go_ret;have hbz:Below w1.heap.size w1 w3:=hbx.trans (hb2.mono hbx.size);exact ⟨rfl,Bg.out.trans ((hbW.trans (hbz.mono hbW.size)).mono Bg.out.size)⟩
        |true=>
         rw[hF] at QV;have HF:=ah hF;clear hF;refine aZ (fun w'=>w'.cell? ⟨w.heap.size,0,none⟩=some (.int .i64 aL)∧w'.cell? ⟨w.heap.size,1,none⟩=some (.slice (some ad) n c)∧w'.cell? ⟨wr.heap.size,0,none⟩=some (.int .i64 x.sn)∧w'.cell? ⟨wr.heap.size,1,none⟩=some (.bool x.part)∧w'.cell? ⟨wr.heap.size,2,none⟩=some (.int .i64 x.fr)∧w'.cell? ⟨wr.heap.size,3,none⟩=some (.int .i64 x.lt)∧w'.cell? (ad.add (k*4))=some (.int .i64 m.sn)∧w'.cell? ⟨(ad.add (k*4)).block,(ad.add (k*4)).off+1,none⟩=some (.bool m.part)∧w'.cell? ⟨(ad.add (k*4)).block,(ad.add (k*4)).off+2,none⟩=some (.int .i64 m.fr)∧w'.cell? ⟨(ad.add (k*4)).block,(ad.add (k*4)).off+3,none⟩=some (.int .i64 m.lt)) [18] (by kernel_rfl) ?_;have hHeld:=HS.out _ (Below.refl w1.heap.size w1).drew;refine aY 0 rfl hHeld ?_
         try simp only[Act.put,aB,aC,ax,ay,aA]
         refine gV [18,8,5,4,3] 1 ?_ rfl (Or.inl ⟨by rfl,?_⟩) hHeld ?_;rotate_left
         ·intro w' hSw;obtain ⟨hS1,hS2,gH,kS,hS5,nA,rC,tu,tC,iF⟩:=hSw;go_simp
          try with_reducible rfl
         try simp only[Act.put,aB,aC,aD,ax,ay,aA]
         refine gV [18,8,5,4,3] 2 ?_ rfl (Or.inl ⟨by rfl,?_⟩) hHeld ?_;rotate_left
         ·intro w' hSw;obtain ⟨hS1,hS2,gH,kS,hS5,nA,rC,tu,tC,iF⟩:=hSw;go_simp
          try with_reducible rfl
         try simp only[Act.put,aB,aC,aD,ax,ay,aA]
         refine aR (i:=3) rfl (by kernel_rfl) (by rfl) (fun K hK=> ?_);go_simp;refine (r9.out _).mono ?_;rintro e1 w2 ⟨rfl,hb1⟩;have hbx:Below w1.heap.size w1 w2:=(Below.refl w1.heap.size w1).drew.trans hb1;refine hK _ _ (HS.out _ hbx) ?_;clear hK K hHeld;have hHeld:=(HS.out _ hbx)
         try simp only[Act.put,aB,aC,aD,ax,ay,aA]
         refine aY 4 rfl hHeld ?_
         try simp only[Act.put,aB,aC,aD,ax,ay,aA]
         refine aY 5 rfl hHeld ?_
         try simp only[Act.put,aB,aC,aD,ax,ay,aA]
         refine aY 6 rfl hHeld ?_
         try simp only[Act.put,aB,aC,aD,ax,ay,aA]
         refine aY 7 rfl hHeld ?_
         try simp only[Act.put,aB,aC,aD,ax,ay,aA]
         refine aY 8 rfl hHeld ?_
         try simp only[Act.put,aB,aC,aD,ax,ay,aA]
         refine aY 9 rfl hHeld ?_
         try simp only[Act.put,aB,aC,aD,ax,ay,aA]
         refine gV [18] 10 ?_ rfl (Or.inl ⟨by rfl,?_⟩) hHeld ?_;rotate_left
         ·intro w' hSw;obtain ⟨hS1,hS2,gH,kS,hS5,nA,rC,tu,tC,iF⟩:=hSw;go_simp
          try with_reducible rfl
         try simp only[Act.put,aB,aC,aD,ax,ay,aA]
         refine aY 11 rfl hHeld ?_
         try simp only[Act.put,aB,aC,aD,ax,ay,aA]
         refine gV [18,16,15] 12 ?_ rfl (Or.inl ⟨by rfl,?_⟩) hHeld ?_;rotate_left
         ·intro w' hSw;obtain ⟨hS1,hS2,gH,kS,hS5,nA,rC,tu,tC,iF⟩:=hSw;go_simp
          try with_reducible rfl
         try simp only[Act.put,aB,aC,aD,ax,ay,aA]
         refine aY 13 rfl hHeld ?_
         try simp only[Act.put,aB,aC,aD,ax,ay,aA]
         refine aY 14 rfl hHeld ?_
         try simp only[Act.put,aB,aC,aD,ax,ay,aA]
         refine aY 15 rfl hHeld ?_
         try simp only[Act.put,aB,aC,aD,ax,ay,aA]
         refine gV [18] 16 ?_ rfl (Or.inl ⟨by rfl,?_⟩) hHeld ?_;rotate_left
         ·intro w' hSw;obtain ⟨hS1,hS2,gH,kS,hS5,nA,rC,tu,tC,iF⟩:=hSw;go_simp
          try with_reducible rfl
         try simp only[Act.put,aB,aC,aD,ax,ay,aA]
         refine gV [18] 17 ?_ rfl (Or.inl ⟨by rfl,?_⟩) hHeld ?_;rotate_left
         ·intro w' hSw;obtain ⟨hS1,hS2,gH,kS,hS5,nA,rC,tu,tC,iF⟩:=hSw;go_simp
          try with_reducible rfl
         try simp only[Act.put,aB,aC,aD,ax,ay,aA]
         refine bD (i:=18) rfl (by kernel_rfl) (by kernel_rfl) (by rfl) (fun K hK=> ?_);go_simp;refine (QV.out _).mono ?_;rintro e2 w3 ⟨rfl,hb2⟩;refine hK _ _ ?_;clear hK K
         try simp only[Act.put,aB,aC,aD,ax,ay,aA]
         refine qT 19 rfl ?_
         try simp only[Act.put,aB,aC,aD,ax,ay,aA]
         refine qT 20 rfl ?_
         try simp only[Act.put,aB,aC,aD,ax,ay,aA]
         refine qT 21 rfl ?_
         try simp only[Act.put,aB,aC,aD,ax,ay,aA]
         refine bu (by kernel_rfl) ?_ _;clear hwk;go_wp2
         go_roundw
         case rel=>
          have hbz:Below w1.heap.size w1 w3:=hbx.trans (hb2.mono hbx.size);refine ⟨k+1+1,by omega,by go_num,hbW.trans (hbz.mono hbW.size),fun j hj=> ?_⟩;rcases Nat.lt_or_ge j (k+1) with h1|h1
          ·exact mZ.out j h1
          ·obtain rfl:j=k+1:=by omega
           intro y hy;rw[HX.out] at hy;cases hy;refine ⟨HA.out,fun z _ hz=> ?_⟩;rw[show k+1-1=k by omega,HM.out] at hz;cases hz;exact HF.out
         case measure=>simp[intOf];omega
     ·have hRt:R=true:=by
       rw[←HR2.out,jU];intro j m hm;have:=(List.getElem?_eq_some_iff.1 hm).1;exact mZ.out j (by have:=HL.out;omega) m hm
      subst hRt;go_wp2;go_ret;exact ⟨rfl,Bg.out.trans (hb.mono Bg.out.size)⟩
   ·have RY:R=false:=by rw[←HR.out];simp[dm,hlen];omega
    subst RY;have d5:decide (512<n)=true:=decide_eq_true (by omega);have HL:=ah hlen;clear hlen h;go_enter Tryz.func119,Tryz.ntmps119;go_wp2;go_ret;exact ⟨rfl,(Below.refl w.heap.size w).alloc (aN) _⟩
  ·have RY:R=false:=by rw[←HR.out];simp[dm];omega
   subst RY;have d1:decide (1023<aL)=true:=decide_eq_true (by omega);clear hlen h;go_enter Tryz.func119,Tryz.ntmps119;go_wp2;go_ret;exact ⟨rfl,(Below.refl w.heap.size w).alloc (aN) _⟩
 ·have RY:R=false:=by rw[←HR.out];simp[dm];omega
  subst RY;have d0:decide (aL<0)=true:=decide_eq_true (by omega);clear hlen h;go_enter Tryz.func119,Tryz.ntmps119;go_wp2;go_ret;exact ⟨rfl,(Below.refl w.heap.size w).alloc (aN) _⟩
end
end
section
open Go.RowKit Go.Shelf
attribute [local go_sem] Oper.semAt_some
section
variable {w w':World} {T:Nat→Nat} {g M n:Nat} {c:Cf} {st:Rc} {vo:Value}
def uR (T:Nat→Nat) (v:Value):Nat→Nat:=fun k=>if v.ownBlock=some k then 3 else T k
theorem zX (T:Nat→Nat):uR T (.slice none 0 0)=T:=by
 funext k
 simp[uR,Value.ownBlock]
theorem gI.yt (h:gI w T g M n c st vo) {v2:Value} {op2:List UInt8} (hr:w.ownsRow 0 5 1 v2 op2.length (bO op2)) (hf:∀k,v2.ownBlock=some k→T k=0):gI (w.setCell ⟨g,17,none⟩ v2) (uR T v2) g M n c {st with op:=op2} v2:=by
 have hT:∀k,T k≠0→uR T v2 k=T k:=fun k hk=>by
  unfold uR;rw[if_neg (fun e=>hk (hf k e))]
 have hk:∀k,T k≠1→(w.setCell ⟨g,17,none⟩ v2).heap[k]? =w.heap[k]? :=fun k hk=>Below.heap_setCell w ⟨g,17,none⟩ v2 k (fun e=>by have e2:k=g:=e;rw[e2] at hk;exact hk h.tg)
 obtain ⟨F,h1,h2⟩:=h.mp;refine ⟨?_,(hT g (by rw[h.tg];omega)).trans h.tg,(hT M (by rw[h.tM];omega)).trans h.tM,fun k hk=> ?_,?_,fun k e=>by unfold uR;rw[if_pos e],F,h1.same (hk M (by rw[h.tM];omega)),fun k=>⟨(h2 k).1,fun p hp=> ?_⟩⟩
 ·have:=h.blk.av 17 v2;exact this
 ·have e:(w.setCell ⟨g,17,none⟩ v2).heap.size=w.heap.size:=by simp[World.setCell]
  rw[e];unfold uR at hk;split at hk
  ·rename_i e2;exact (hr.lt k e2).2
  ·exact h.lt k hk
 ·exact bX hr fun k e=>hk k (by rw[hf k e];omega)
 ·obtain ⟨b,vf,vd,e,hs,t1,t2,t3⟩:=(h2 k).2 p hp;exact ⟨b,vf,vd,e,hs.stay (hk b (by omega)) (fun j hj=>hk j (by rw[t2 j hj];omega)) (fun j hj=>hk j (by rw[t3 j hj];omega)),(hT b (by omega)).trans t1,fun j hj=>(hT j (by rw[t2 j hj];omega)).trans (t2 j hj),fun j hj=>(hT j (by rw[t3 j hj];omega)).trans (t3 j hj)⟩
theorem gI.abA {v:Value} (h:gI w (uR T v) g M n c st (.slice none 0 0)) (hl:∀k,T k≠0→k<w.heap.size):gI w T g M n c st (.slice none 0 0):=by
 have hT:∀k,uR T v k≠3→T k=uR T v k:=fun k hk=>by
  unfold uR at hk ⊢;split
  ·rename_i e;rw[if_pos e] at hk;exact absurd rfl hk
  ·rfl
 obtain ⟨F,h1,h2⟩:=h.mp;refine ⟨h.blk,(hT g (by rw[h.tg];omega)).trans h.tg,(hT M (by rw[h.tM];omega)).trans h.tM,hl,h.rX,fun k e=>by simp[Value.ownBlock] at e,F,h1,fun k=>⟨(h2 k).1,fun p hp=> ?_⟩⟩;obtain ⟨b,vf,vd,e,hs,t1,t2,t3⟩:=(h2 k).2 p hp;exact ⟨b,vf,vd,e,hs,(hT b (by omega)).trans t1,fun j hj=>(hT j (by rw[t2 j hj];omega)).trans (t2 j hj),fun j hj=>(hT j (by rw[t3 j hj];omega)).trans (t3 j hj)⟩
def abB (w:World) (T:Nat→Nat) (g M n:Nat) (c:Cf) (st:Rc) (R:List UInt8 × Bool × List (List UInt8)) (e:Ending) (w':World):Prop:=
 ∃T' AV vr,e= .returned (.tuple #[vr,.bool (!R.2.2.isEmpty)])∧gI w' T' g M n c {st with op:=R.1,sm:=R.2.1} AV∧(∀k,k<w.heap.size→T' k=T k)∧Kept (fun k _=>k=g) w w'∧
  (∀q,R.2.2= [q]→w'.ownsRow w.heap.size 5 1 vr q.length (bO q)∧∀k,vr.ownBlock=some k→T' k=0)
theorem Qn {w w':World} {g:Nat} (h:Below w.heap.size w w'):Kept (fun k _=>k=g) w w':=(Kept.of_below h).fE fun k o ho hm=>by have:=lt_of_heap ho;omega
theorem TW (w:World) (A1 A2:Option Addr) (n1 c1 n2 c2:Nat) (l1 l2:List UInt8) (h1:Sl w w.heap.size A1 n1 c1 (bO l1)) (h2:Sl w w.heap.size A2 n2 c2 (bO l2)) (t:TypeId):
 iO (w.alloc (.cells #[.slice A1 n1 c1,.slice A2 n2 c2] t)) (w.alloc (.cells #[.slice A1 n1 c1,.slice A2 n2 c2] t)).heap.size (some ⟨w.heap.size,0,none⟩) 2 2 [.slice A1 n1 c1,.slice A2 n2 c2] [l1,l2]:=by
 have hb:=au.new w t #[.slice A1 n1 c1,.slice A2 n2 c2];have e1:l1.length=n1:=by simpa using h1.len
 have e2:l2.length=n2:=by simpa using h2.len
 refine ⟨⟨rfl,aN,by omega,fun _=>⟨_,rfl,by simp,fun j u hu=> ?_⟩⟩,rfl,fun i p hi=> ?_⟩
 ·rw[Addr.add_lit,Nat.zero_add];rw[hb.cell j];simpa using hu
 ·have hsz:w.heap.size≤(w.alloc (.cells #[.slice A1 n1 c1,.slice A2 n2 c2] t)).heap.size:=by simp
  match i,hi with
  |0,hi=>
   simp at hi;subst hi;exact ⟨A1,c1,by rw[e1];rfl,by rw[e1];exact (h1.alloc (aN) _).more hsz⟩
  |1,hi=>
   simp at hi;subst hi;exact ⟨A2,c2,by rw[e2];rfl,by rw[e2];exact (h2.alloc (aN) _).more hsz⟩
  |i+2,hi=>simp at hi
set_option maxRecDepth 100000 in
set_option maxHeartbeats 4000000 in
theorem MZ (h:gI w T g M n c st vo) (ho:dP st) (A:Option Addr) (nb cb:Nat) (bs:List UInt8) (hnb:nb≤100000) (hs:∀W,Kept (fun k _=>k=g) w W→Sl W W.heap.size A nb cb (bO bs)) (begins last:Bool):
 Calls Tryz.prog 157 #[.pointer (some ⟨g,0,none⟩),.slice A nb cb,.bool begins,.bool last] w (abB w T g M n c st (ul bs begins last st.op st.sm)):=by
 have hlen:bs.length=nb:=by simpa using (hs w (Kept.refl _ w)).len
 have hop:=ho.op;have HS:=ah hs;have HH:=ah h;obtain ⟨R,hR⟩:∃R,ul bs begins last st.op st.sm=R:=⟨_,rfl⟩
 rw[hR];obtain ⟨op1,sm1,hop1⟩:∃(op1:List UInt8) (sm1:Bool),(op1,sm1)=if begins=true then (([]:List UInt8),true) else (st.op,st.sm):=⟨_,_,rfl⟩
 have oV:R=if sm1=false then (op1,false,[]) else if (op1++bs).length≤9000∧last=false then (op1++bs,true,[]) else ([],false,if (op1++bs).length≤9000 then [op1++bs] else []):=by
  rw[←hR];unfold ul;cases begins with
  |true=>
   simp only[if_true,Prod.mk.injEq] at hop1;obtain ⟨rfl,rfl⟩:=hop1;rw[if_neg (show ¬(true=false∧st.sm=false) by simp),if_neg (show ¬(true=false) by simp)];dsimp only;rw[if_pos rfl]
  |false=>
   simp only[Bool.false_eq_true,if_false,Prod.mk.injEq] at hop1;obtain ⟨rfl,rfl⟩:=hop1;cases hsm:st.sm with
   |false=>rw[if_pos (by simp),if_pos rfl]
   |true=>
    rw[if_neg (show ¬(false=false∧true=false) by simp),if_neg (show ¬(true=false) by simp)];dsimp only;rw[if_neg (show ¬(false=true) by simp)]
 have hol:op1.length≤9000:=by
  split at hop1
  ·simp only[Prod.mk.injEq] at hop1;rw[hop1.1];simp
  ·simp only[Prod.mk.injEq] at hop1;rw[hop1.1];exact hop
 have HOP:=ah hop1;have HR1:=ah oV;clear hs hR h ho hop1 oV;go_enter Tryz.func157,Tryz.ntmps157;go_upto_if 11 with (fail)
 go_cut [] from 12 to 17 (fun wx=>∃v1,gI wx T g M n c {st with op:=op1,sm:=sm1} v1∧Kept (fun k _=>k=g) w wx)
 case first=>
  cases begins with
  |true=>
   have hop1:=HOP.out;simp only[if_true,Prod.mk.injEq] at hop1;obtain ⟨rfl,rfl⟩:=hop1;have c17:=HH.out.cell 17;have c18:=HH.out.cell 18;have f17:=HH.out.blk.frozen 17;have f18:=HH.out.blk.frozen 18;simp[Mb] at c17 c18;have h1:=HH.out.yt (v2:= .slice none 0 0) (op2:= []) (World.ownsRow_nil _ _ _ _) (fun k e=>by simp[Value.ownBlock] at e);rw[zX] at h1;have h2:=h1.put 18 (.bool true) (st':= {st with op:= [],sm:=true}) rfl rfl rfl;have H2:=ah h2;clear h1 h2;go_wp2;go_meet;exact ⟨_,H2.out,((Kept.refl _ w).setCell (p:=⟨g,17,none⟩) (fun _ _=>rfl) _).setCell (p:=⟨g,18,none⟩) (fun _ _=>rfl) _⟩
  |false=>
   have hop1:=HOP.out;simp only[Bool.false_eq_true,if_false,Prod.mk.injEq] at hop1;obtain ⟨rfl,rfl⟩:=hop1;go_wp2;go_meet;exact ⟨vo,HH.out,Kept.refl _ w⟩
 case rest=>
 obtain ⟨v1,h1,hk1⟩:=hcut;have hsb:=HS.out wc hk1;have hkm:Kept (fun k _=>k=g) w wc:=hk1;have HKM:=ah hkm;have tJ:=ah hk1;have H1:=ah h1;have c17:=h1.cell 17;have c18:=h1.cell 18;simp[Mb] at c17 c18;clear hk1 hkm HS HOP;cases sm1 with
 |false=>
  have hr:=HR1.out;rw[if_pos rfl] at hr;have HR:=ah hr;clear hr HR1 hsb h1;go_wp2
  go_ret2
  rw[HR.out];exact ⟨T,v1,_,rfl,H1.out,fun _ _=>rfl,HKM.out,fun q hq=>by cases hq⟩
 |true=>
  have hr:=HR1.out;rw[if_neg (by simp)] at hr;obtain ⟨A1,c1,rfl,hs1,-⟩:=bq h1.rX;have XT:=yE (some ⟨wc.heap.size,0,none⟩) 2 2 _ _ _ (TW wc A1 A op1.length c1 nb cb op1 bs hs1 hsb 31) (by simp[aj];omega);have e1: [op1,bs].flatten=op1++bs:=by simp
  have e2:aj [op1,bs]=(op1++bs).length:=by simp[aj]
  rw[e1,e2] at XT;have hcl:(op1++bs).length≤109000:=by rw[List.length_append];omega
  have abE:=ah XT;have HR:=ah hr;clear XT hr HR1 hsb h1 e1 e2 hs1;generalize op1++bs=o2 at*;go_upto_region 6 with (go_at_call 173;refine abE.out.mono ?_;rintro e3 w3 ⟨v3,rfl,hv3,hb3⟩;obtain ⟨A3,c3,rfl,hs3,-⟩:=bq hv3;have hbb:=((Below.refl wc.heap.size wc).alloc (aN) (.cells #[.slice A1 op1.length c1,.slice A nb cb] 31)).trans (hb3.mono (by simp));have h3:=H1.out.below hbb;have c17:=h3.cell 17;have f17:=h3.blk.frozen 17;simp[Mb] at c17)
  have hT0:∀k,T k≠0→k<wc.heap.size:=H1.out.lt
  have XU:∀k,(Value.slice A3 o2.length c3).ownBlock=some k→wc.heap.size≤k:=fun k hk=>by have:=(hv3.lt k hk).1;simp at this;omega
  have hv0:∀k,(Value.slice A3 o2.length c3).ownBlock=some k→T k=0:=fun k hk=>by
   have h9:=XU k hk;rcases Nat.eq_zero_or_pos (T k) with e|e
   ·exact e
   ·have:=hT0 k (by omega);omega
  have hwz:=HKM.out.size;have hw3:=hbb.size;have Vk:=aU hv3 (Nat.zero_le _);have h4:=h3.yt (op2:=o2) Vk hv0;have hk4:Kept (fun k _=>k=g) w (w3.setCell ⟨g,17,none⟩ (.slice A3 o2.length c3)):=(HKM.out.trans (Qn hbb)).setCell (p:=⟨g,17,none⟩) (fun _ _=>rfl) _;have hv4:(w3.setCell ⟨g,17,none⟩ (.slice A3 o2.length c3)).ownsRow w.heap.size 5 1 (.slice A3 o2.length c3) o2.length (bO o2):=aI (aU hv3 (by simp;omega)) h3.blk (by decide) _;have htg:∀k,k<w.heap.size→uR T (.slice A3 o2.length c3) k=T k:=fun k hk=>by
   unfold uR;rw[if_neg (fun e=>by have:=XU k e;omega)]
  have H4:=ah h4;have xB:=ah hk4;have HV4:=ah hv4;have HTG:=ah htg;have HV0:=ah hv0;have ai1:=hs3.cap;have amx:=hs3.mx;clear h3 hb3 hbb hv3 hT0 XU Vk h4 hk4 hv4 htg hv0 hs3 abE H1 tJ HKM;generalize w3.setCell ⟨g,17,none⟩ (.slice A3 o2.length c3)=w4 at*;have c17:=H4.out.cell 17;have c18:=H4.out.cell 18;have f17:=H4.out.blk.frozen 17;have f18:=H4.out.blk.frozen 18;simp[Mb] at c17 c18;by_cases hle:o2.length≤9000
  ·cases last with
   |false=>
    have hr:=HR.out;rw[if_pos ⟨hle,rfl⟩] at hr;have HR2:=ah hr;clear hr;go_wp2
    go_ret2
    rw[HR2.out];exact ⟨_,_,_,rfl,H4.out,HTG.out,xB.out,fun q hq=>by cases hq⟩
   |true=>
    have hr:=HR.out;rw[if_neg (by simp),if_pos hle] at hr;have HR2:=ah hr;have d1:decide (o2.length≤9000)=true:=decide_eq_true hle;have h5:=(H4.out.yt (v2:= .slice none 0 0) (op2:= []) (World.ownsRow_nil _ _ _ _) (fun k e=>by simp[Value.ownBlock] at e)).put 18 (.bool false) (st':= {st with op:= [],sm:=false}) rfl rfl rfl;rw[zX] at h5;have hk5:=(xB.out.setCell (p:=⟨g,17,none⟩) (fun _ _=>rfl) (.slice none 0 0)).setCell (p:=⟨g,18,none⟩) (fun _ _=>rfl) (.bool false);have hv5:=aI (i:=18) (aI (i:=17) HV4.out H4.out.blk (by decide) (.slice none 0 0)) (H4.out.blk.av 17 (.slice none 0 0)) (by decide) (.bool false);have H5:=ah h5;have rD:=ah hk5;have HV5:=ah hv5;clear h5 hk5 hv5 hr;go_wp2
    go_ret2
    rw[HR2.out];have hl5:=H5.out.abA (fun k hk=>by
     have h9:=H5.out.lt k;unfold uR at h9;split at h9
     ·exact h9 (by omega)
     ·exact h9 hk)
    exact ⟨T,_,_,rfl,hl5,fun _ _=>rfl,rD.out,fun q hq=>by cases hq;exact ⟨HV5.out,HV0.out⟩⟩
  ·have hr:=HR.out;rw[if_neg (fun e=>hle e.1),if_neg hle] at hr;have HR2:=ah hr;have d1:decide (o2.length≤9000)=false:=decide_eq_false hle;have h5:=(H4.out.yt (v2:= .slice none 0 0) (op2:= []) (World.ownsRow_nil _ _ _ _) (fun k e=>by simp[Value.ownBlock] at e)).put 18 (.bool false) (st':= {st with op:= [],sm:=false}) rfl rfl rfl;rw[zX] at h5;have hk5:=(xB.out.setCell (p:=⟨g,17,none⟩) (fun _ _=>rfl) (.slice none 0 0)).setCell (p:=⟨g,18,none⟩) (fun _ _=>rfl) (.bool false);have H5:=ah h5;have rD:=ah hk5;clear h5 hk5 hr;go_wp2
   go_ret2
   rw[HR2.out];exact ⟨_,_,_,rfl,H5.out,HTG.out,rD.out,fun q hq=>by cases hq⟩
end
end
section
open Go.RowKit Go.Shelf
attribute [local go_sem] Oper.semAt_some
theorem De {b:List UInt8} {begins last:Bool} {op:List UInt8} {sm:Bool} (h:op.length≤9000):(ul b begins last op sm).1.length≤9000∧(ul b begins last op sm).2.2.length≤1:=by
 unfold ul;split
 ·exact ⟨h,by simp⟩
 ·dsimp only;generalize (if begins=true then [] else op)++b=o2;split
  ·rename_i hc;exact ⟨hc.1,by simp⟩
  ·refine ⟨by simp,?_⟩;split<;>simp
theorem zY (fl:List Fl) (da:List UInt8) (N:Nat):∀(k i fr:Nat) (op:List UInt8) (sm:Bool),op.length≤9000→(vS fl da N k i fr op sm).1.length≤9000∧(vS fl da N k i fr op sm).2.2.length≤k
 |0,_,_,_,_,h=>⟨h,by simp[vS]⟩
 |k+1,i,fr,op,sm,h=>by
  unfold vS;split
  ·have:=zY fl da N k (i+1) fr op sm h;exact ⟨this.1,by omega⟩
  ·have h1:=De (b:=(da.take i).drop fr) (begins:=(fQ fl fr).2.1) (last:=decide (i<N)||(fQ fl (i-1)).2.2) (sm:=sm) h;have h2:=zY fl da N k (i+1) i _ (ul ((da.take i).drop fr) (fQ fl fr).2.1 (decide (i<N)||(fQ fl (i-1)).2.2) op sm).2.1 h1.1;refine ⟨h2.1,?_⟩;dsimp only;rw[List.length_append];omega
theorem dP.one {st:Rc} (ho:dP st) {p:Sp} (_hp:st.m st.next=some p):dP (zq st p):=by
 have h1:=zY p.fl p.da (Cx p) (Cx p) 1 0 st.op st.sm ho.op;refine ⟨by show fJ st.next≤1023;unfold fJ;omega,ho.n2,ho.n3,ho.n4,fun k q hk=> ?_,h1.1,ho.t1,ho.t2⟩;have hk2:(if k=st.next then none else st.m k)=some q:=hk;split at hk2
 ·cases hk2
 ·rename_i hne;obtain ⟨a,b,d⟩:=ho.m k q hk2;refine ⟨a,?_,d⟩;have hn:=ho.n1;show (k+1024-fJ st.next)%1024<512
  unfold cO at b;unfold fJ;omega
def fT (W:World) (base:Nat) (T:Nat→Nat) (v:Value) (outs:List (List UInt8)):Prop:=
 ∃vs,W.ownsRow base 31 1 v outs.length vs∧(∀k,v.ownBlock=some k→T k=0)∧∀(i:Nat) (q:List UInt8),outs[i]? =some q→∃vi,vs[i]? =some vi∧W.ownsRow base 5 1 vi q.length (bO q)∧∀k,vi.ownBlock=some k→T k=0
section
variable {w w' W W':World} {T T':Nat→Nat} {g M n:Nat} {c:Cf} {st:Rc} {vo v:Value} {base:Nat} {outs:List (List UInt8)}
theorem fT.nil (W:World) (base:Nat) (T:Nat→Nat):fT W base T (.slice none 0 0) []:=⟨[],World.ownsRow_nil _ _ _ _,fun k e=>by simp[Value.ownBlock] at e,fun i q h=>by simp at h⟩
theorem fT.stay (h:fT W base T v outs) (hk:Kept (MT T) W W') (hT:∀k,k<W.heap.size→T' k=T k):fT W' base T' v outs:=by
 obtain ⟨vs,h1,h2,h3⟩:=h;have key:∀k,k<W.heap.size→T k=0→W'.heap[k]? =W.heap[k]? :=fun k hlt h0=>by
  have e:W.heap[k]? =some W.heap[k]:=Array.getElem?_eq_getElem hlt;rw[e];exact hk.same k _ e (fun hm=>hm h0)
 refine ⟨vs,bX h1 fun k e=>key k (h1.lt k e).2 (h2 k e),fun k e=>(hT k (h1.lt k e).2).trans (h2 k e),fun i q hi=> ?_⟩;obtain ⟨vi,e,ho,ht⟩:=h3 i q hi;exact ⟨vi,e,bX ho fun k e=>key k (ho.lt k e).2 (ht k e),fun k e=>(hT k (ho.lt k e).2).trans (ht k e)⟩
theorem fT.wD (h:fT W base T v outs) {b:Nat} (hb:b≤base):fT W b T v outs:=by
 obtain ⟨vs,h1,h2,h3⟩:=h;exact ⟨vs,aU h1 hb,h2,fun i q hi=>let ⟨vi,e,ho,ht⟩:=h3 i q hi;⟨vi,e,aU ho hb,ht⟩⟩
theorem fT.drew (h:fT W base T v outs):fT W.drew base T v outs:=h
theorem fT.below (h:fT W base T v outs) (hb:Below W.heap.size W W'):fT W' base T v outs:=by
 obtain ⟨vs,h1,h2,h3⟩:=h;exact ⟨vs,bX h1 fun k e=>hb.block k (h1.lt k e).2,h2,fun i q hi=>let ⟨vi,e,ho,ht⟩:=h3 i q hi;⟨vi,e,bX ho fun k e=>hb.block k (ho.lt k e).2,ht⟩⟩
theorem fT.push {q:List UInt8} {vq v2:Value} {vs:List Value} (hrow:W.ownsRow base 31 1 v outs.length vs) (_hv:∀k,v.ownBlock=some k→T k=0) (h3:∀(i:Nat) (q:List UInt8),outs[i]? =some q→∃vi,vs[i]? =some vi∧W.ownsRow base 5 1 vi q.length (bO q)∧∀k,vi.ownBlock=some k→T k=0)
 (hq:W.ownsRow base 5 1 vq q.length (bO q)) (ID:∀k,vq.ownBlock=some k→T k=0) (hown:W'.ownsRow base 31 1 v2 (outs.length+1) (vs++ [vq])) (hg:(W.alloc (.cells #[vq] 31)).grownBy W' v.ownBlock) (hv2:∀k,v2.ownBlock=some k→T k=0):fT W' base T v2 (outs++ [q]):=by
 have hs:=hrow.alloc (.cells #[vq] 31);have h5:∀{k:Nat} {x:Value} {xs:List Value},W.ownsRow base 5 1 x k xs→W'.ownsRow base 5 1 x k xs:=fun hx=>(hx.alloc _).kept hg (qP (hx.alloc _) hs (by decide))
 refine ⟨vs++ [vq],by simpa using hown,hv2,fun i r hi=> ?_⟩;rcases Nat.lt_or_ge i outs.length with hlt|hge
 ·rw[List.getElem?_append_left hlt] at hi;obtain ⟨vi,e,ho,ht⟩:=h3 i r hi;have hl:=hrow.1;exact ⟨vi,by rw[List.getElem?_append_left (by omega)];exact e,h5 ho,ht⟩
 ·have hl:=hrow.1;have hi2:i=outs.length:=by
   have:=(List.getElem?_eq_some_iff.1 hi).1;simp at this;omega
  subst hi2;rw[List.getElem?_append_right (aN),Nat.sub_self] at hi;simp at hi;subst hi;refine ⟨vq,?_,h5 hq,ID⟩;rw[List.getElem?_append_right (by omega),show outs.length-vs.length=0 by omega];rfl
theorem gI.grown (h:gI W T g M n c st vo) {row:Option Nat} (hg:W.grownBy W' row) (hr:∀k,row=some k→T k=0):gI W' T g M n c st vo:=
 h.stay fun k hk=>hg.block k (h.lt k hk) (fun e=>hk (hr k e.symm))
theorem gI.TX {n2:Nat} {F2:Nat→Option Value} {m2:Nat→Option Sp} (h:gI W T g M n c st vo) (hg:W.grownBy W' (some M)) (hF:iq Tryz.prog 3 W' M n2 F2)
 (hm:∀k,(m2 k=none→F2 k=none)∧∀p,m2 k=some p→∃b vf vd,F2 k=some (.pointer (some ⟨b,0,none⟩))∧oD W b p vf vd∧T b=3*k+4∧(∀j,vf.ownBlock=some j→T j=3*k+5)∧(∀j,vd.ownBlock=some j→T j=3*k+6)):gI W' T g M n2 c {st with m:=m2} vo:=by
 have hk:∀k,T k≠2→k<W.heap.size→W'.heap[k]? =W.heap[k]? :=fun k h2 hlt=>hg.block k hlt (fun e=>by cases e;exact h2 h.tM)
 have hsz:=hg.size;refine ⟨(hk g (by rw[h.tg];omega) h.blk.lt).trans h.blk,h.tg,h.tM,fun k e=>Nat.lt_of_lt_of_le (h.lt k e) hsz,bX h.rX fun k e=>hk k (by rw[h.od k e];omega) (h.rX.lt k e).2,h.od,F2,hF,fun k=>⟨(hm k).1,fun p hp=> ?_⟩⟩;obtain ⟨b,vf,vd,e,hs,t1,t2,t3⟩:=(hm k).2 p hp;exact ⟨b,vf,vd,e,hs.stay (hk b (by omega) hs.blk.lt) (fun j hj=>hk j (by rw[t2 j hj];omega) (hs.fr.lt j hj).2) (fun j hj=>hk j (by rw[t3 j hj];omega) (hs.dr.lt j hj).2),t1,t2,t3⟩
end
end
end Go.Proofs.YtbhiklnljiehiaaGreat
