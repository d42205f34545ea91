/- status.Valid. -/
import Derived.Test.YtbhiklnljiehiaaGreatM3ao
import Derived.Test.YtbhiklnljiehiaaGreatM3av
set_option maxHeartbeats 8000000
set_option maxRecDepth 100000
namespace Go.Proofs.YtbhiklnljiehiaaGreat
open RowKit Shelf Tryz
attribute [local go_sem] Oper.semAt_some
structure dD (w:World) (A:Option Addr) (n c:Nat) (l:List Nk):Prop where
 len:l.length=n
 cap:n<=c
 mx:c<=9223372036854775807
 at_:0<n->∃ad,A=some ad/\ad.block<w.heap.size/\∀j r,l[j]? =some r->w.cell? (ad.add (j*4))=some (.int .i64 r.sn)/\w.cell? ⟨(ad.add (j*4)).block,(ad.add (j*4)).off+1,none⟩=some (.bool r.part)/\w.cell? ⟨(ad.add (j*4)).block,(ad.add (j*4)).off+2,none⟩=some (.int .i64 r.fr)/\w.cell? ⟨(ad.add (j*4)).block,(ad.add (j*4)).off+3,none⟩=some (.int .i64 r.lt)
theorem dD.below {w w':World} {A:Option Addr} {n c:Nat} {l:List Nk} (h:dD w A n c l) (hb:Below w w w'):dD w' A n c l:=
 ⟨h.len,h.cap,h.mx,fun hn=>by
  obtain ⟨ad,e,hlt,hc⟩:=h.at_ hn;refine ⟨ad,e,zD hlt hb.size,fun j r hr=> ?_⟩;obtain ⟨k0,k1,k2,k3⟩:=hc j r hr;have hbk:(ad.add (j*4)).block<w.heap.size:=by rw[block_add];exact hlt
  exact ⟨(hb.cell hbk).trans k0,(hb.cell (p:=⟨(ad.add (j*4)).block,_,none⟩) hbk).trans k1,(hb.cell (p:=⟨(ad.add (j*4)).block,_,none⟩) hbk).trans k2,(hb.cell (p:=⟨(ad.add (j*4)).block,_,none⟩) hbk).trans k3⟩⟩
theorem dD.drewN {w:World} {A:Option Addr} {n c:Nat} {l:List Nk} (h:dD w A n c l) (k:Nat):dD (w.drewN k) A n c l:=h.below ((bS _ w).drewN k)
theorem dD.alloc {w:World} {A:Option Addr} {n c:Nat} {l:List Nk} (h:dD w A n c l) (o:Obj):dD (w.alloc o) A n c l:=h.below ((bS _ w).alloc (aL) o)
def UY (aA:Int) (l:List Nk) (k:Nat):Prop:=∀n,l[k]? =some n->iq aA n=true/\∀m,0<k->l[k-1]? =some m->jL aA m n=true
theorem lD (aA:Int):∀l:List Nk,oM aA l=true↔∀k,UY aA l k
 | []=>by simp[oM,UY]
 | [n]=>by
  simp only[oM,UY];constructor
  ·intro h k m hm;cases k with
   |zero=>simp at hm;subst hm;exact ⟨h,fun _ h0=>by omega⟩
   |succ k=>simp at hm
  ·intro h;exact (h 0 n rfl).1
 |a::b::r=>by
  have ih:=lD aA (b::r);simp only[oM,gD,ih];constructor
  ·rintro ⟨h1,h2,h3⟩ k n hn;cases k with
   |zero=>simp at hn;subst hn;exact ⟨h1,fun _ h0=>by omega⟩
   |succ k=>
    have h4:=h3 k n (by simpa using hn);refine ⟨h4.1,fun m _ hm=> ?_⟩;cases k with
    |zero=>simp at hn hm;subst hn hm;exact h2
    |succ k=>exact h4.2 m (by omega) (by simpa using hm)
  ·intro h;refine ⟨(h 0 a rfl).1,(h 1 b rfl).2 a (by omega) rfl,fun k n hn=> ?_⟩;have h4:=h (k+1) n (by simpa using hn);refine ⟨h4.1,fun m h0 hm=>h4.2 m (by omega) ?_⟩;rw[show k+1-1=(k-1)+1 by omega];simpa using hm
section
variable (w:World)
theorem nL (aA:Int) (A:Option Addr) (n c:Nat) (l:List Nk) (h:dD w A n c l):
 Calls prog 119 #[.agg #[aA,.slice A n c]] w fun e w'=>e= .returned (.bool (bO aA l))/\Below w w w':=by
 have hlen:=h.len;have hcap:=h.cap;have hmx:=h.mx;obtain ⟨R,hR⟩:∃R,bO aA l=R:=⟨_,rfl⟩
 rw[hR];have HR:=ah hR;clear hR;by_cases h0:0<=aA
 ·have d0:decide (aA<0)=false:=iP (by omega);by_cases h1:aA<=1023
  ·have d1:decide (1023<aA)=false:=iP (by omega);by_cases h5:n<=512
   ·have hR2:oM aA l=R:=by rw[<-HR.out];simp[bO,hlen,h0,h1,h5]
    have HR2:=ah hR2;have HL:=ah hlen;have HN:=ah (h.alloc (.cells #[aA,.slice A n c] 133));have hbk:=av.new w 133 #[aA,.slice A n c];have HBK:=ah hbk;have MU:=ah ((bS w w).alloc (aL) (.cells #[aA,.slice A n c] 133));clear h hR2 hbk hlen;go_enter func119,ntmps119;go_wp2;have hz:=mZ w (.cells #[aA,.slice A n c] 133);have HZ:=ah hz;clear hz;generalize w.alloc (.cells #[aA,.slice A n c] 133)=w0 at*
    go_loopw [22] (fun i wr=>∃k:Nat,k<=n/\i= .int .i64 k/\Below w0 w0 wr/\∀j,j<k->UY aA l j) (fun i _=>n-(intOf i).toNat)
    case atStart=>exact ⟨0,eH _,rfl,bS _ _,fun j hj=>by omega⟩
    case round=>
     obtain ⟨k,hk,rfl,hb,hall⟩:=hrel;have qM:=ah hall;clear hall;by_cases hlt:k<n
     ·obtain ⟨x,hx⟩:∃x,l[k]? =some x:=⟨_,gX (by have:=HL.out;omega)⟩
      obtain ⟨ad,rfl,FC,hcl⟩:=(HN.out.below hb).at_ (by omega);obtain ⟨k0,k1,k2,k3⟩:=hcl k x hx;have HX:=ah hx;have yB:=ah hcl;have hbw:w.heap.size<w0.heap.size:=HBK.out.lt;have b0:=(HBK.out.below hb hbw).alloc (.cells (nU x) 197);have b1:=av.new wr 197 (nU x);have hbW:Below w0 w0 (wr.alloc (.cells (nU x) 197)):=hb.alloc hb.size _;have z0:(wr.alloc (.cells (nU x) 197)).cell? w=some (.int .i64 aA):=b0.cell 0;have z1:(wr.alloc (.cells (nU x) 197)).cell? ⟨w,1,none⟩=some (.slice (some ad) n c):=b0.cell 1;have y0:(wr.alloc (.cells (nU x) 197)).cell? ⟨wr,0,none⟩=some (.int .i64 x.sn):=b1.cell 0;have y1:(wr.alloc (.cells (nU x) 197)).cell? ⟨wr,1,none⟩=some (.bool x.part):=b1.cell 1;have y2:(wr.alloc (.cells (nU x) 197)).cell? ⟨wr,2,none⟩=some (.int .i64 x.fr):=b1.cell 2;have y3:(wr.alloc (.cells (nU x) 197)).cell? ⟨wr,3,none⟩=some (.int .i64 x.lt):=b1.cell 3;have hlt1:wr.heap.size<(wr.alloc (.cells (nU x) 197)).heap.size:=by simp
      have afU:w.heap.size<(wr.alloc (.cells (nU x) 197)).heap.size:=b0.lt;have hal:=fun (W:World)=>FB W aA x
      have yE:=ah hal;have HNW:=ah ((HN.out.below hbW));clear b0 b1 hx hcl hal;unfold nU at*;go_upto_region 6 with (fail)
      generalize wr.alloc (.cells #[.int .i64 x.sn,.bool x.part,.int .i64 x.fr,.int .i64 x.lt] 197)=w1 at*;clear k0 k1 k2 k3;cases hA:iq aA x with
      |false=>
       rw[hA] at yE;have Yt:R=false:=by
        rw[<-HR2.out,<-Bool.not_eq_true,lD];intro hh;have:=(hh k x HX.out).1;rw[hA] at this;cases this
       subst Yt;have HA:=ah hA;clear hA;refine bX (fun w'=>w'.cell? w=some (.int .i64 aA)/\w'.cell? ⟨w,1,none⟩=some (.slice (some ad) n c)/\w'.cell? ⟨wr,0,none⟩=some (.int .i64 x.sn)/\w'.cell? ⟨wr,1,none⟩=some (.bool x.part)/\w'.cell? ⟨wr,2,none⟩=some (.int .i64 x.fr)/\w'.cell? ⟨wr,3,none⟩=some (.int .i64 x.lt)) [3] (by kernel_rfl) ?_;have hHeld:=(show w1.drew.cell? w=some (.int .i64 aA)/\w1.drew.cell? ⟨w,1,none⟩=some (.slice (some ad) n c)/\w1.drew.cell? ⟨wr,0,none⟩=some (.int .i64 x.sn)/\w1.drew.cell? ⟨wr,1,none⟩=some (.bool x.part)/\w1.drew.cell? ⟨wr,2,none⟩=some (.int .i64 x.fr)/\w1.drew.cell? ⟨wr,3,none⟩=some (.int .i64 x.lt) from ⟨z0,z1,y0,y1,y2,y3⟩);refine aW 0 ?_;refine jq [3] 1 ?_;refine jq [3] 2 ?_;refine dB (i:=3) rfl (by kernel_rfl) (by kernel_rfl) (by rfl) (fun K hK=> ?_);go_simp;refine (yE.out _).mono ?_;rintro e1 w2 ⟨rfl,hb1⟩;refine hK _ _ ?_;clear hK K
       try simp only[Act.put,gJ]
       refine xL 4 ?_;refine xL 5 ?_;refine Db 6 ?_;refine Db 7 ?_;refine Db 8 ?_;refine Db 9 ?_;refine Db 10 ?_;refine Db 11 ?_;refine Db 12 ?_;refine Db 13 ?_;refine Db 14 ?_;refine Db 15 ?_;refine Db 16 ?_;refine Db 17 ?_;refine Db 18 ?_;refine Db 19 ?_;refine Db 20 ?_;refine xL 21 ?_;refine bW (by kernel_rfl) ?_ _;go_wp2;go_ret;exact ⟨rfl,MU.out.trans (hbW.drew.trans (hb1.mono hbW.drew.size) |>.mono MU.out.size)⟩
      |true=>
       rw[hA] at yE;have HA:=ah hA;clear hA;by_cases hk0:k=0
       ·subst hk0;refine bX (fun w'=>w'.cell? w=some (.int .i64 aA)/\w'.cell? ⟨w,1,none⟩=some (.slice (some ad) n c)/\w'.cell? ⟨wr,0,none⟩=some (.int .i64 x.sn)/\w'.cell? ⟨wr,1,none⟩=some (.bool x.part)/\w'.cell? ⟨wr,2,none⟩=some (.int .i64 x.fr)/\w'.cell? ⟨wr,3,none⟩=some (.int .i64 x.lt)) [3] (by kernel_rfl) ?_;have hHeld:=(show w1.drew.cell? w=some (.int .i64 aA)/\w1.drew.cell? ⟨w,1,none⟩=some (.slice (some ad) n c)/\w1.drew.cell? ⟨wr,0,none⟩=some (.int .i64 x.sn)/\w1.drew.cell? ⟨wr,1,none⟩=some (.bool x.part)/\w1.drew.cell? ⟨wr,2,none⟩=some (.int .i64 x.fr)/\w1.drew.cell? ⟨wr,3,none⟩=some (.int .i64 x.lt) from ⟨z0,z1,y0,y1,y2,y3⟩);refine aW 0 ?_;refine jq [3] 1 ?_;refine jq [3] 2 ?_;refine dB (i:=3) rfl (by kernel_rfl) (by kernel_rfl) (by rfl) (fun K hK=> ?_);go_simp;refine (yE.out _).mono ?_;rintro e1 w2 ⟨rfl,hb1⟩;refine hK _ _ ?_;clear hK K
        try simp only[Act.put,gJ]
        refine xL 4 ?_;refine xL 5 ?_;refine xL 6 ?_;refine xL 7 ?_;refine xL 8 ?_;refine Db 9 ?_;refine Db 10 ?_;refine Db 11 ?_;refine Db 12 ?_;refine Db 13 ?_;refine Db 14 ?_;refine Db 15 ?_;refine Db 16 ?_;refine Db 17 ?_;refine Db 18 ?_;refine Db 19 ?_;refine xL 20 ?_;refine xL 21 ?_;refine bW (by kernel_rfl) ?_ _;go_wp2
        go_roundw
        case rel=>
         refine ⟨1,by omega,rfl,hbW.drew.trans (hb1.mono hbW.drew.size),fun j hj m hm=> ?_⟩;obtain rfl:j=0:=by omega
         rw[HX.out] at hm;cases hm;exact ⟨HA.out,fun _ h0=>by omega⟩
        case measure=>simp[intOf];omega
       ·obtain ⟨k,rfl⟩:∃k',k=k'+1:=⟨k-1,by omega⟩
        obtain ⟨m,hm⟩:∃m,l[k]? =some m:=⟨_,gX (by have:=HL.out;omega)⟩
        obtain ⟨Ew,akR,afV,afW⟩:=HNW.out.at_ (by omega);cases akR;obtain ⟨m0,m1,m2,m3⟩:=afW k m hm;have hS:∀W,Below w1 w1 W->W.cell? w=some (.int .i64 aA)/\W.cell? ⟨w,1,none⟩=some (.slice (some ad) n c)/\W.cell? ⟨wr,0,none⟩=some (.int .i64 x.sn)/\W.cell? ⟨wr,1,none⟩=some (.bool x.part)/\W.cell? ⟨wr,2,none⟩=some (.int .i64 x.fr)/\W.cell? ⟨wr,3,none⟩=some (.int .i64 x.lt)/\W.cell? (ad.add (k*4))=some (.int .i64 m.sn)/\W.cell? ⟨(ad.add (k*4)).block,(ad.add (k*4)).off+1,none⟩=some (.bool m.part)/\W.cell? ⟨(ad.add (k*4)).block,(ad.add (k*4)).off+2,none⟩=some (.int .i64 m.fr)/\W.cell? ⟨(ad.add (k*4)).block,(ad.add (k*4)).off+3,none⟩=some (.int .i64 m.lt):=fun W hW=>by
         have hbk:(ad.add (k*4)).block<w1.heap.size:=by rw[block_add];exact afV
         exact ⟨(hW.cell (p:=⟨w,0,none⟩) afU).trans z0,(hW.cell (p:=⟨w,1,none⟩) afU).trans z1,(hW.cell (p:=⟨wr,0,none⟩) hlt1).trans y0,(hW.cell (p:=⟨wr,1,none⟩) hlt1).trans y1,(hW.cell (p:=⟨wr,2,none⟩) hlt1).trans y2,(hW.cell (p:=⟨wr,3,none⟩) hlt1).trans y3,
          (hW.cell hbk).trans m0,(hW.cell (p:=⟨(ad.add (k*4)).block,_,none⟩) hbk).trans m1,(hW.cell (p:=⟨(ad.add (k*4)).block,_,none⟩) hbk).trans m2,(hW.cell (p:=⟨(ad.add (k*4)).block,_,none⟩) hbk).trans m3⟩
        have HS:=ah hS;have hfo:=fun (W:World)=>AR W aA m x
        have Xe:=ah hfo;have HM:=ah hm;have hkn:(k:Int)<n:=by omega
        have arz:(0:Int)<=k:=by omega
        have hwk:IntKind.i64.wrap (k:Int)=(k:Int):=iG _ (by omega);clear hS hfo hm afW m0 m1 m2 m3 z0 z1 y0 y1 y2 y3;unfold nU at Xe;cases hF:jL aA m x with
        |false=>
         rw[hF] at Xe;have Yt:R=false:=by
          rw[<-HR2.out,<-Bool.not_eq_true,lD];intro hh;have:=(hh (k+1) x HX.out).2 m (by omega) HM.out;rw[hF] at this;cases this
         subst Yt;have HF:=ah hF;clear hF;refine bX (fun w'=>w'.cell? w=some (.int .i64 aA)/\w'.cell? ⟨w,1,none⟩=some (.slice (some ad) n c)/\w'.cell? ⟨wr,0,none⟩=some (.int .i64 x.sn)/\w'.cell? ⟨wr,1,none⟩=some (.bool x.part)/\w'.cell? ⟨wr,2,none⟩=some (.int .i64 x.fr)/\w'.cell? ⟨wr,3,none⟩=some (.int .i64 x.lt)/\w'.cell? (ad.add (k*4))=some (.int .i64 m.sn)/\w'.cell? ⟨(ad.add (k*4)).block,(ad.add (k*4)).off+1,none⟩=some (.bool m.part)/\w'.cell? ⟨(ad.add (k*4)).block,(ad.add (k*4)).off+2,none⟩=some (.int .i64 m.fr)/\w'.cell? ⟨(ad.add (k*4)).block,(ad.add (k*4)).off+3,none⟩=some (.int .i64 m.lt)) [18] (by kernel_rfl) ?_;have hHeld:=HS.out _ (bS w1 w1).drew;refine aW 0 ?_;refine jq [18,8,5,4,3] 1 ?_;refine jq [18,8,5,4,3] 2 ?_;refine aU (i:=3) rfl (by kernel_rfl) (by rfl) (fun K hK=> ?_);go_simp;refine (yE.out _).mono ?_;rintro e1 w2 ⟨rfl,hb1⟩;have hbx:Below w1 w1 w2:=(bS w1 w1).drew.trans hb1;refine hK _ _ (HS.out _ hbx) ?_;clear hK K hHeld;have hHeld:=(HS.out _ hbx)
         try simp only[Act.put,gJ]
         refine aW 4 ?_;refine aW 5 ?_;refine aW 6 ?_;refine aW 7 ?_;refine aW 8 ?_;refine aW 9 ?_;refine jq [18] 10 ?_;refine aW 11 ?_;refine jq [18,16,15] 12 ?_;refine aW 13 ?_;refine aW 14 ?_;refine aW 15 ?_;refine jq [18] 16 ?_;refine jq [18] 17 ?_;refine dB (i:=18) rfl (by kernel_rfl) (by kernel_rfl) (by rfl) (fun K hK=> ?_);go_simp;refine (Xe.out _).mono ?_;rintro e2 w3 ⟨rfl,hb2⟩;refine hK _ _ ?_;clear hK K
         try simp only[Act.put,gJ]
         refine xL 19 ?_;refine xL 20 ?_;refine xL 21 ?_;refine bW (by kernel_rfl) ?_ _;clear hwk;go_wp2;go_ret;have hbz:Below w1 w1 w3:=hbx.trans (hb2.mono hbx.size);exact ⟨rfl,MU.out.trans ((hbW.trans (hbz.mono hbW.size)).mono MU.out.size)⟩
        |true=>
         rw[hF] at Xe;have HF:=ah hF;clear hF;refine bX (fun w'=>w'.cell? w=some (.int .i64 aA)/\w'.cell? ⟨w,1,none⟩=some (.slice (some ad) n c)/\w'.cell? ⟨wr,0,none⟩=some (.int .i64 x.sn)/\w'.cell? ⟨wr,1,none⟩=some (.bool x.part)/\w'.cell? ⟨wr,2,none⟩=some (.int .i64 x.fr)/\w'.cell? ⟨wr,3,none⟩=some (.int .i64 x.lt)/\w'.cell? (ad.add (k*4))=some (.int .i64 m.sn)/\w'.cell? ⟨(ad.add (k*4)).block,(ad.add (k*4)).off+1,none⟩=some (.bool m.part)/\w'.cell? ⟨(ad.add (k*4)).block,(ad.add (k*4)).off+2,none⟩=some (.int .i64 m.fr)/\w'.cell? ⟨(ad.add (k*4)).block,(ad.add (k*4)).off+3,none⟩=some (.int .i64 m.lt)) [18] (by kernel_rfl) ?_;have hHeld:=HS.out _ (bS w1 w1).drew;refine aW 0 ?_;refine jq [18,8,5,4,3] 1 ?_;refine jq [18,8,5,4,3] 2 ?_;refine aU (i:=3) rfl (by kernel_rfl) (by rfl) (fun K hK=> ?_);go_simp;refine (yE.out _).mono ?_;rintro e1 w2 ⟨rfl,hb1⟩;have hbx:Below w1 w1 w2:=(bS w1 w1).drew.trans hb1;refine hK _ _ (HS.out _ hbx) ?_;clear hK K hHeld;have hHeld:=(HS.out _ hbx)
         try simp only[Act.put,gJ]
         refine aW 4 ?_;refine aW 5 ?_;refine aW 6 ?_;refine aW 7 ?_;refine aW 8 ?_;refine aW 9 ?_;refine jq [18] 10 ?_;refine aW 11 ?_;refine jq [18,16,15] 12 ?_;refine aW 13 ?_;refine aW 14 ?_;refine aW 15 ?_;refine jq [18] 16 ?_;refine jq [18] 17 ?_;refine dB (i:=18) rfl (by kernel_rfl) (by kernel_rfl) (by rfl) (fun K hK=> ?_);go_simp;refine (Xe.out _).mono ?_;rintro e2 w3 ⟨rfl,hb2⟩;refine hK _ _ ?_;clear hK K
         try simp only[Act.put,gJ]
         refine xL 19 ?_;refine xL 20 ?_;refine xL 21 ?_;refine bW (by kernel_rfl) ?_ _;clear hwk;go_wp2
         go_roundw
         case rel=>
          have hbz:Below w1 w1 w3:=hbx.trans (hb2.mono hbx.size);refine ⟨k+1+1,by omega,by go_num,hbW.trans (hbz.mono hbW.size),fun j hj=> ?_⟩;rcases kD j (k+1) with h1|h1
          ·exact qM.out j h1
          ·obtain rfl:j=k+1:=by omega
           intro y hy;rw[HX.out] at hy;cases hy;refine ⟨HA.out,fun z _ hz=> ?_⟩;rw[show k+1-1=k by omega,HM.out] at hz;cases hz;exact HF.out
         case measure=>simp[intOf];omega
     ·have hRt:R=true:=by
       rw[<-HR2.out,lD];intro j m hm;have:=(pN.1 hm).1;exact qM.out j (by have:=HL.out;omega) m hm
      subst hRt;go_wp2;go_ret;exact ⟨rfl,MU.out.trans (hb.mono MU.out.size)⟩
   ·have Yt:R=false:=by rw[<-HR.out];simp[bO,hlen];omega
    subst Yt;have d5:decide (512<n)=true:=iK (by omega);have HL:=ah hlen;clear hlen h;go_enter func119,ntmps119;go_wp2;go_ret;exact ⟨rfl,(bS w w).alloc (aL) _⟩
  ·have Yt:R=false:=by rw[<-HR.out];simp[bO];omega
   subst Yt;have d1:decide (1023<aA)=true:=iK (by omega);clear hlen h;go_enter func119,ntmps119;go_wp2;go_ret;exact ⟨rfl,(bS w w).alloc (aL) _⟩
 ·have Yt:R=false:=by rw[<-HR.out];simp[bO];omega
  subst Yt;have d0:decide (aA<0)=true:=iK (by omega);clear hlen h;go_enter func119,ntmps119;go_wp2;go_ret;exact ⟨rfl,(bS w w).alloc (aL) _⟩
end
section
variable {w w':World} {T:Nat->Nat} {g M n:Nat} {c:Cf} {st:Rc} {vo:Value}
def Bj (T:Nat->Nat) (v:Value):Nat->Nat:=fun k=>if v.ownBlock=some k then 3 else T k
theorem Gs (T:Nat->Nat):Bj T (.slice none 0 0)=T:=by
 funext k
 simp[Bj,Value.ownBlock]
theorem jo.Eg (h:jo w T g M n c st vo) {v2:Value} {op2:List UInt8} (hr:w.ownsRow 0 5 1 v2 op2.length (dz op2)) (hf:∀k,v2.ownBlock=some k->T k=0):jo (w.setCell ⟨g,17,none⟩ v2) (Bj T v2) g M n c {st with op:=op2} v2:=by
 have hT:∀k,T k≠0->Bj T v2 k=T k:=fun k hk=>by
  unfold Bj;rw[aP (fun e=>hk (hf k e))]
 have hk:∀k,T k≠1->(w.setCell ⟨g,17,none⟩ v2).heap[k]? =w.heap[k]? :=fun k hk=>lZ w ⟨g,17,none⟩ v2 k (fun e=>by have e2:k=g:=e;rw[e2] at hk;exact hk h.tg)
 obtain ⟨F,h1,h2⟩:=h.mp;refine ⟨?_,(hT g (by rw[h.tg];omega)).trans h.tg,(hT M (by rw[h.tM];omega)).trans h.tM,fun k hk=> ?_,?_,fun k e=>by unfold Bj;rw[bD e],F,h1.same (hk M (by rw[h.tM];omega)),fun k=>⟨(h2 k).1,fun p hp=> ?_⟩⟩
 ·have:=h.blk.ay 17 v2;exact this
 ·have e:(w.setCell ⟨g,17,none⟩ v2).heap.size=w.heap.size:=by simp[World.setCell]
  rw[e];unfold Bj at hk;split at hk
  ·rename_i e2;exact (hr.lt k e2).2
  ·exact h.lt k hk
 ·exact dw hr fun k e=>hk k (by rw[hf k e];omega)
 ·obtain ⟨b,vf,vd,e,hs,t1,t2,t3⟩:=(h2 k).2 p hp;exact ⟨b,vf,vd,e,hs.stay (hk b (by omega)) (fun j hj=>hk j (by rw[t2 j hj];omega)) (fun j hj=>hk j (by rw[t3 j hj];omega)),(hT b (by omega)).trans t1,fun j hj=>(hT j (by rw[t2 j hj];omega)).trans (t2 j hj),fun j hj=>(hT j (by rw[t3 j hj];omega)).trans (t3 j hj)⟩
theorem jo.ahB {v:Value} (h:jo w (Bj T v) g M n c st (.slice none 0 0)) (hl:∀k,T k≠0->k<w.heap.size):jo w T g M n c st (.slice none 0 0):=by
 have hT:∀k,Bj T v k≠3->T k=Bj T v k:=fun k hk=>by
  unfold Bj at hk ⊢;split
  ·rename_i e;rw[bD e] at hk;exact absurd rfl hk
  ·rfl
 obtain ⟨F,h1,h2⟩:=h.mp;refine ⟨h.blk,(hT g (by rw[h.tg];omega)).trans h.tg,(hT M (by rw[h.tM];omega)).trans h.tM,hl,h.yL,fun k e=>by simp[Value.ownBlock] at e,F,h1,fun k=>⟨(h2 k).1,fun p hp=> ?_⟩⟩;obtain ⟨b,vf,vd,e,hs,t1,t2,t3⟩:=(h2 k).2 p hp;exact ⟨b,vf,vd,e,hs,(hT b (by omega)).trans t1,fun j hj=>(hT j (by rw[t2 j hj];omega)).trans (t2 j hj),fun j hj=>(hT j (by rw[t3 j hj];omega)).trans (t3 j hj)⟩
def ahC (w:World) (T:Nat->Nat) (g M n:Nat) (c:Cf) (st:Rc) (R:List UInt8 × Bool × List (List UInt8)) (e:Ending) (w':World):Prop:=
 ∃T' GR vr,e= .returned (.tuple #[vr,.bool (!R.2.2.isEmpty)])/\jo w' T' g M n c {st with op:=R.1,sm:=R.2.1} GR/\(∀k,k<w.heap.size->T' k=T k)/\Kept (fun k _=>k=g) w w'/\
  (∀q,R.2.2= [q]->w'.ownsRow w 5 1 vr q.length (dz q)/\∀k,vr.ownBlock=some k->T' k=0)
theorem V6 {w w':World} {g:Nat} (h:Below w w w'):Kept (fun k _=>k=g) w w':=(Kept.of_below h).iI fun k o ho hm=>by have:=lt_of_heap ho;omega
theorem Zo (w:World) (A1 A2:Option Addr) (n1 c1 n2 c2:Nat) (l1 l2:List UInt8) (h1:Sl w w A1 n1 c1 (dz l1)) (h2:Sl w w A2 n2 c2 (dz l2)) (t:TypeId):
 jW (w.alloc (.cells #[.slice A1 n1 c1,.slice A2 n2 c2] t)) (w.alloc (.cells #[.slice A1 n1 c1,.slice A2 n2 c2] t)).heap.size (some ⟨w,0,none⟩) 2 2 [.slice A1 n1 c1,.slice A2 n2 c2] [l1,l2]:=by
 have hb:=av.new w t #[.slice A1 n1 c1,.slice A2 n2 c2];have e1:l1.length=n1:=by simpa using h1.len
 have e2:l2.length=n2:=by simpa using h2.len
 refine ⟨⟨rfl,aL,by omega,fun _=>⟨_,rfl,by simp,fun j u hu=> ?_⟩⟩,rfl,fun i p hi=> ?_⟩
 ·rw[Addr.add_lit,jA];rw[hb.cell j];simpa using hu
 ·have hsz:w.heap.size<=(w.alloc (.cells #[.slice A1 n1 c1,.slice A2 n2 c2] t)).heap.size:=by simp
  match i,hi with
  |0,hi=>
   simp at hi;subst hi;exact ⟨A1,c1,by rw[e1];rfl,by rw[e1];exact (h1.alloc (aL) _).more hsz⟩
  |1,hi=>
   simp at hi;subst hi;exact ⟨A2,c2,by rw[e2];rfl,by rw[e2];exact (h2.alloc (aL) _).more hsz⟩
  |i+2,hi=>simp at hi
theorem S7 (h:jo w T g M n c st vo) (ho:fM st) (A:Option Addr) (nb cb:Nat) (bs:List UInt8) (hnb:nb<=100000) (hs:∀W,Kept (fun k _=>k=g) w W->Sl W W.heap.size A nb cb (dz bs)) (begins last:Bool):
 Calls prog 157 #[.pointer (some g),.slice A nb cb,.bool begins,.bool last] w (ahC w T g M n c st (uU bs begins last st.op st.sm)):=by
 have hlen:bs.length=nb:=by simpa using (hs w (Kept.refl _ w)).len
 have hop:=ho.op;have HS:=ah hs;have HH:=ah h;obtain ⟨R,hR⟩:∃R,uU bs begins last st.op st.sm=R:=⟨_,rfl⟩
 rw[hR];obtain ⟨op1,sm1,hop1⟩:∃(op1:List UInt8) (sm1:Bool),(op1,sm1)=if begins=true then (([]:List UInt8),true) else (st.op,st.sm):=⟨_,_,rfl⟩
 have tY:R=if sm1=false then (op1,false,[]) else if (op1++bs).length<=9000/\last=false then (op1++bs,true,[]) else ([],false,if (op1++bs).length<=9000 then [op1++bs] else []):=by
  rw[<-hR];unfold uU;cases begins with
  |true=>
   simp only[kE,BA] at hop1;obtain ⟨rfl,rfl⟩:=hop1;rw[aP (show ¬(true=false/\st.sm=false) by simp),aP (show ¬(true=false) by simp)];dsimp only;rw[bD rfl]
  |false=>
   simp only[mq,l7,BA] at hop1;obtain ⟨rfl,rfl⟩:=hop1;cases hsm:st.sm with
   |false=>rw[bD (by simp),bD rfl]
   |true=>
    rw[aP (show ¬(false=false/\true=false) by simp),aP (show ¬(true=false) by simp)];dsimp only;rw[aP (show ¬(false=true) by simp)]
 have hol:op1.length<=9000:=by
  split at hop1
  ·simp only[BA] at hop1;rw[hop1.1];simp
  ·simp only[BA] at hop1;rw[hop1.1];exact hop
 have HOP:=ah hop1;have HR1:=ah tY;clear hs hR h ho hop1 tY;go_enter func157,ntmps157;go_upto_if 11 with (fail)
 go_cut [] from 12 to 17 (fun wx=>∃v1,jo wx T g M n c {st with op:=op1,sm:=sm1} v1/\Kept (fun k _=>k=g) w wx)
 case first=>
  cases begins with
  |true=>
   have hop1:=HOP.out;simp only[kE,BA] at hop1;obtain ⟨rfl,rfl⟩:=hop1;have c17:=HH.out.cell 17;have c18:=HH.out.cell 18;have f17:=HH.out.blk.frozen 17;have f18:=HH.out.blk.frozen 18;simp[Sc] at c17 c18;have h1:=HH.out.Eg (v2:= .slice none 0 0) (op2:= []) (jl _ _ _ _) (fun k e=>by simp[Value.ownBlock] at e);rw[Gs] at h1;have h2:=h1.put 18 (.bool true) (st':= {st with op:= [],sm:=true}) rfl rfl rfl;have H2:=ah h2;clear h1 h2;go_wp2;go_meet;exact ⟨_,H2.out,((Kept.refl _ w).setCell (p:=⟨g,17,none⟩) (fun _ _=>rfl) _).setCell (p:=⟨g,18,none⟩) (fun _ _=>rfl) _⟩
  |false=>
   have hop1:=HOP.out;simp only[mq,l7,BA] at hop1;obtain ⟨rfl,rfl⟩:=hop1;go_wp2;go_meet;exact ⟨vo,HH.out,Kept.refl _ w⟩
 case rest=>
 obtain ⟨v1,h1,hk1⟩:=hcut;have hsb:=HS.out wc hk1;have hkm:Kept (fun k _=>k=g) w wc:=hk1;have HKM:=ah hkm;have yN:=ah hk1;have H1:=ah h1;have c17:=h1.cell 17;have c18:=h1.cell 18;simp[Sc] at c17 c18;clear hk1 hkm HS HOP;cases sm1 with
 |false=>
  have hr:=HR1.out;rw[bD rfl] at hr;have HR:=ah hr;clear hr HR1 hsb h1;go_wp2
  go_ret2
  rw[HR.out];exact ⟨T,v1,_,rfl,H1.out,fun _ _=>rfl,HKM.out,fun q hq=>by cases hq⟩
 |true=>
  have hr:=HR1.out;rw[aP (by simp)] at hr;obtain ⟨A1,c1,rfl,hs1,-⟩:=aY h1.yL;have adh:=ED (some ⟨wc,0,none⟩) 2 2 _ _ _ (Zo wc A1 A op1.length c1 nb cb op1 bs hs1 hsb 31) (by simp[aj];omega);have e1: [op1,bs].flatten=op1++bs:=by simp
  have e2:aj [op1,bs]=(op1++bs).length:=by simp[aj]
  rw[e1,e2] at adh;have hcl:(op1++bs).length<=109000:=by rw[l8];omega
  have ahF:=ah adh;have HR:=ah hr;clear adh hr HR1 hsb h1 e1 e2 hs1;generalize op1++bs=o2 at*;go_upto_region 6 with (go_at_call 173;refine ahF.out.mono ?_;rintro e3 w3 ⟨v3,rfl,hv3,hb3⟩;obtain ⟨A3,c3,rfl,hs3,-⟩:=aY hv3;have hbb:=((bS wc wc).alloc (aL) (.cells #[.slice A1 op1.length c1,.slice A nb cb] 31)).trans (hb3.mono (by simp));have h3:=H1.out.below hbb;have c17:=h3.cell 17;have f17:=h3.blk.frozen 17;simp[Sc] at c17)
  have hT0:∀k,T k≠0->k<wc.heap.size:=H1.out.lt
  have adi:∀k,(Value.slice A3 o2.length c3).ownBlock=some k->wc.heap.size<=k:=fun k hk=>by have:=(hv3.lt k hk).1;simp at this;omega
  have hv0:∀k,(Value.slice A3 o2.length c3).ownBlock=some k->T k=0:=fun k hk=>by
   have h9:=adi k hk;rcases oV (T k) with e|e
   ·exact e
   ·have:=hT0 k (by omega);omega
  have hwz:=HKM.out.size;have hw3:=hbb.size;have aaJ:=bF hv3 (eH _);have h4:=h3.Eg (op2:=o2) aaJ hv0;have hk4:Kept (fun k _=>k=g) w (w3.setCell ⟨g,17,none⟩ (.slice A3 o2.length c3)):=(HKM.out.trans (V6 hbb)).setCell (p:=⟨g,17,none⟩) (fun _ _=>rfl) _;have hv4:(w3.setCell ⟨g,17,none⟩ (.slice A3 o2.length c3)).ownsRow w.heap.size 5 1 (.slice A3 o2.length c3) o2.length (dz o2):=aN (bF hv3 (by simp;omega)) h3.blk (by decide) _;have htg:∀k,k<w.heap.size->Bj T (.slice A3 o2.length c3) k=T k:=fun k hk=>by
   unfold Bj;rw[aP (fun e=>by have:=adi k e;omega)]
  have H4:=ah h4;have GL:=ah hk4;have HV4:=ah hv4;have HTG:=ah htg;have HV0:=ah hv0;have apl:=hs3.cap;have atg:=hs3.mx;clear h3 hb3 hbb hv3 hT0 adi aaJ h4 hk4 hv4 htg hv0 hs3 ahF H1 yN HKM;generalize w3.setCell ⟨g,17,none⟩ (.slice A3 o2.length c3)=w4 at*;have c17:=H4.out.cell 17;have c18:=H4.out.cell 18;have f17:=H4.out.blk.frozen 17;have f18:=H4.out.blk.frozen 18;simp[Sc] at c17 c18;by_cases hle:o2.length<=9000
  ·cases last with
   |false=>
    have hr:=HR.out;rw[bD ⟨hle,rfl⟩] at hr;have HR2:=ah hr;clear hr;go_wp2
    go_ret2
    rw[HR2.out];exact ⟨_,_,_,rfl,H4.out,HTG.out,GL.out,fun q hq=>by cases hq⟩
   |true=>
    have hr:=HR.out;rw[aP (by simp),bD hle] at hr;have HR2:=ah hr;have d1:decide (o2.length<=9000)=true:=iK hle;have h5:=(H4.out.Eg (v2:= .slice none 0 0) (op2:= []) (jl _ _ _ _) (fun k e=>by simp[Value.ownBlock] at e)).put 18 (.bool false) (st':= {st with op:= [],sm:=false}) rfl rfl rfl;rw[Gs] at h5;have hk5:=(GL.out.setCell (p:=⟨g,17,none⟩) (fun _ _=>rfl) (.slice none 0 0)).setCell (p:=⟨g,18,none⟩) (fun _ _=>rfl) (.bool false);have hv5:=aN (i:=18) (aN (i:=17) HV4.out H4.out.blk (by decide) (.slice none 0 0)) (H4.out.blk.ay 17 (.slice none 0 0)) (by decide) (.bool false);have H5:=ah h5;have zw:=ah hk5;have HV5:=ah hv5;clear h5 hk5 hv5 hr;go_wp2
    go_ret2
    rw[HR2.out];have hl5:=H5.out.ahB (fun k hk=>by
     have h9:=H5.out.lt k;unfold Bj at h9;split at h9
     ·exact h9 (by omega)
     ·exact h9 hk)
    exact ⟨T,_,_,rfl,hl5,fun _ _=>rfl,zw.out,fun q hq=>by cases hq;exact ⟨HV5.out,HV0.out⟩⟩
  ·have hr:=HR.out;rw[aP (fun e=>hle e.1),aP hle] at hr;have HR2:=ah hr;have d1:decide (o2.length<=9000)=false:=iP hle;have h5:=(H4.out.Eg (v2:= .slice none 0 0) (op2:= []) (jl _ _ _ _) (fun k e=>by simp[Value.ownBlock] at e)).put 18 (.bool false) (st':= {st with op:= [],sm:=false}) rfl rfl rfl;rw[Gs] at h5;have hk5:=(GL.out.setCell (p:=⟨g,17,none⟩) (fun _ _=>rfl) (.slice none 0 0)).setCell (p:=⟨g,18,none⟩) (fun _ _=>rfl) (.bool false);have H5:=ah h5;have zw:=ah hk5;clear h5 hk5 hr;go_wp2
   go_ret2
   rw[HR2.out];exact ⟨_,_,_,rfl,H5.out,HTG.out,zw.out,fun q hq=>by cases hq⟩
end
theorem JN {b:List UInt8} {begins last:Bool} {op:List UInt8} {sm:Bool} (h:op.length<=9000):(uU b begins last op sm).1.length<=9000/\(uU b begins last op sm).2.2.length<=1:=by
 unfold uU;split
 ·exact ⟨h,by simp⟩
 ·dsimp only;generalize (if begins=true then [] else op)++b=o2;split
  ·rename_i hc;exact ⟨hc.1,by simp⟩
  ·refine ⟨by simp,?_⟩;split<;>simp
theorem Gt (fl:List Fl) (da:List UInt8) (N:Nat):∀(k i fr:Nat) (op:List UInt8) (sm:Bool),op.length<=9000->(rU fl da N k i fr op sm).1.length<=9000/\(rU fl da N k i fr op sm).2.2.length<=k
 |0,_,_,_,_,h=>⟨h,by simp[rU]⟩
 |k+1,i,fr,op,sm,h=>by
  unfold rU;split
  ·have:=Gt fl da N k (i+1) fr op sm h;exact ⟨this.1,by omega⟩
  ·have h1:=JN (b:=(da.take i).drop fr) (begins:=(dZ fl fr).2.1) (last:=decide (i<N)||(dZ fl (i-1)).2.2) (sm:=sm) h;have h2:=Gt fl da N k (i+1) i _ (uU ((da.take i).drop fr) (dZ fl fr).2.1 (decide (i<N)||(dZ fl (i-1)).2.2) op sm).2.1 h1.1;refine ⟨h2.1,?_⟩;dsimp only;rw[l8];omega
theorem fM.one {st:Rc} (ho:fM st) {p:Sp} (_hp:st.m st.next=some p):fM (Ah st p):=by
 have h1:=Gt p.fl p.da (CQ p) (CQ p) 1 0 st.op st.sm ho.op;refine ⟨by show eD st.next<=1023;unfold eD;omega,ho.n2,ho.n3,ho.n4,fun k q hk=> ?_,h1.1,ho.t1,ho.t2⟩;have hk2:(if k=st.next then none else st.m k)=some q:=hk;split at hk2
 ·cases hk2
 ·rename_i hne;obtain ⟨a,b,d⟩:=ho.m k q hk2;refine ⟨a,?_,d⟩;have hn:=ho.n1;show (k+1024-eD st.next)%1024<512
  unfold bZ at b;unfold eD;omega
def iO (W:World) (base:Nat) (T:Nat->Nat) (v:Value) (outs:List (List UInt8)):Prop:=
 ∃vs,W.ownsRow base 31 1 v outs.length vs/\(∀k,v.ownBlock=some k->T k=0)/\∀(i:Nat) (q:List UInt8),outs[i]? =some q->∃vi,vs[i]? =some vi/\W.ownsRow base 5 1 vi q.length (dz q)/\∀k,vi.ownBlock=some k->T k=0
section
variable {w w' W W':World} {T T':Nat->Nat} {g M n:Nat} {c:Cf} {st:Rc} {vo v:Value} {base:Nat} {outs:List (List UInt8)}
theorem iO.nil (W:World) (base:Nat) (T:Nat->Nat):iO W base T (.slice none 0 0) []:=⟨[],jl _ _ _ _,fun k e=>by simp[Value.ownBlock] at e,fun i q h=>by simp at h⟩
theorem iO.stay (h:iO W base T v outs) (hk:Kept (MT T) W W') (hT:∀k,k<W.heap.size->T' k=T k):iO W' base T' v outs:=by
 obtain ⟨vs,h1,h2,h3⟩:=h;have key:∀k,k<W.heap.size->T k=0->W'.heap[k]? =W.heap[k]? :=fun k hlt h0=>by
  have e:W.heap[k]? =some W.heap[k]:=rH hlt;rw[e];exact hk.same k _ e (fun hm=>hm h0)
 refine ⟨vs,dw h1 fun k e=>key k (h1.lt k e).2 (h2 k e),fun k e=>(hT k (h1.lt k e).2).trans (h2 k e),fun i q hi=> ?_⟩;obtain ⟨vi,e,ho,ht⟩:=h3 i q hi;exact ⟨vi,e,dw ho fun k e=>key k (ho.lt k e).2 (ht k e),fun k e=>(hT k (ho.lt k e).2).trans (ht k e)⟩
theorem iO.CW (h:iO W base T v outs) {b:Nat} (hb:b<=base):iO W b T v outs:=by
 obtain ⟨vs,h1,h2,h3⟩:=h;exact ⟨vs,bF h1 hb,h2,fun i q hi=>let ⟨vi,e,ho,ht⟩:=h3 i q hi;⟨vi,e,bF ho hb,ht⟩⟩
theorem iO.drew (h:iO W base T v outs):iO W.drew base T v outs:=h
theorem iO.below (h:iO W base T v outs) (hb:Below W W W'):iO W' base T v outs:=by
 obtain ⟨vs,h1,h2,h3⟩:=h;exact ⟨vs,dw h1 fun k e=>hb.block k (h1.lt k e).2,h2,fun i q hi=>let ⟨vi,e,ho,ht⟩:=h3 i q hi;⟨vi,e,dw ho fun k e=>hb.block k (ho.lt k e).2,ht⟩⟩
theorem iO.push {q:List UInt8} {vq v2:Value} {vs:List Value} (hrow:W.ownsRow base 31 1 v outs.length vs) (_hv:∀k,v.ownBlock=some k->T k=0) (h3:∀(i:Nat) (q:List UInt8),outs[i]? =some q->∃vi,vs[i]? =some vi/\W.ownsRow base 5 1 vi q.length (dz q)/\∀k,vi.ownBlock=some k->T k=0)
 (hq:W.ownsRow base 5 1 vq q.length (dz q)) (Ot:∀k,vq.ownBlock=some k->T k=0) (hown:W'.ownsRow base 31 1 v2 (outs.length+1) (vs++ [vq])) (hg:(W.alloc (.cells #[vq] 31)).grownBy W' v.ownBlock) (hv2:∀k,v2.ownBlock=some k->T k=0):iO W' base T v2 (outs++ [q]):=by
 have hs:=hrow.alloc (.cells #[vq] 31);have h5:∀{k:Nat} {x:Value} {xs:List Value},W.ownsRow base 5 1 x k xs->W'.ownsRow base 5 1 x k xs:=fun hx=>(hx.alloc _).kept hg (xD (hx.alloc _) hs (by decide))
 refine ⟨vs++ [vq],by simpa using hown,hv2,fun i r hi=> ?_⟩;rcases kD i outs.length with hlt|hge
 ·rw[mh hlt] at hi;obtain ⟨vi,e,ho,ht⟩:=h3 i r hi;have hl:=hrow.1;exact ⟨vi,by rw[mh (by omega)];exact e,h5 ho,ht⟩
 ·have hl:=hrow.1;have hi2:i=outs.length:=by
   have:=(pN.1 hi).1;simp at this;omega
  subst hi2;rw[oI (aL),Nat.sub_self] at hi;simp at hi;subst hi;refine ⟨vq,?_,h5 hq,Ot⟩;rw[oI (by omega),show outs.length-vs.length=0 by omega];rfl
theorem jo.grown (h:jo W T g M n c st vo) {row:Option Nat} (hg:W.grownBy W' row) (hr:∀k,row=some k->T k=0):jo W' T g M n c st vo:=
 h.stay fun k hk=>hg.block k (h.lt k hk) (fun e=>hk (hr k e.symm))
theorem jo.Zp {n2:Nat} {F2:Nat->Option Value} {m2:Nat->Option Sp} (h:jo W T g M n c st vo) (hg:W.grownBy W' (some M)) (hF:ku prog 3 W' M n2 F2)
 (hm:∀k,(m2 k=none->F2 k=none)/\∀p,m2 k=some p->∃b vf vd,F2 k=some (.pointer (some ⟨b,0,none⟩))/\uG W b p vf vd/\T b=3*k+4/\(∀j,vf.ownBlock=some j->T j=3*k+5)/\(∀j,vd.ownBlock=some j->T j=3*k+6)):jo W' T g M n2 c {st with m:=m2} vo:=by
 have hk:∀k,T k≠2->k<W.heap.size->W'.heap[k]? =W.heap[k]? :=fun k h2 hlt=>hg.block k hlt (fun e=>by cases e;exact h2 h.tM)
 have hsz:=hg.size;refine ⟨(hk g (by rw[h.tg];omega) h.blk.lt).trans h.blk,h.tg,h.tM,fun k e=>zD (h.lt k e) hsz,dw h.yL fun k e=>hk k (by rw[h.od k e];omega) (h.yL.lt k e).2,h.od,F2,hF,fun k=>⟨(hm k).1,fun p hp=> ?_⟩⟩;obtain ⟨b,vf,vd,e,hs,t1,t2,t3⟩:=(hm k).2 p hp;exact ⟨b,vf,vd,e,hs.stay (hk b (by omega) hs.blk.lt) (fun j hj=>hk j (by rw[t2 j hj];omega) (hs.fr.lt j hj).2) (fun j hj=>hk j (by rw[t3 j hj];omega) (hs.dr.lt j hj).2),t1,t2,t3⟩
end
end Go.Proofs.YtbhiklnljiehiaaGreat
