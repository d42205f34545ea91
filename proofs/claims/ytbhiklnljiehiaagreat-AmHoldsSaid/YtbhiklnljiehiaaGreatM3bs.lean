/- law37, plain: what holds of a link; its. -/
import Derived.Test.YtbhiklnljiehiaaGreatM3bq
namespace Go.Proofs.YtbhiklnljiehiaaGreat
open RowKit Tryz
theorem zl {sn off:Nat} {po sg la s e:Bool} {ps:List (List UInt8)} (h:qh ps):(qO sn po sg la off s e ps).length<=100000:=by
 rw[C6];have h1:=h.hi;have h2:=h.sum;unfold bI;split<;>omega
theorem Wz (more:Bool) (x:Nk):(wJ more x).length<=42:=by
 unfold wJ;split<;>simp
theorem NZ:∀l:List Nk,(mY l).length<=42*l.length
 | []=>by simp[mY]
 |x::r=>by
  have h1:=Wz (decide (0<r.length)) x;have h2:=NZ r;rw[mY,l8,jh];omega
theorem N5 {aA:Nat} {l:List Nk} (h:l.length<=512):(qB aA l).length<=100000:=by
 have:=NZ l;rw[QW,ji];unfold bI;simp only[l8,rJ];omega
theorem N6 {c:Cf} {n:Int} {st:Sd} {i:Nat} {x:Ou} (ho:zS x) {p:Pu} (hp:(dK c n st i x).2=some p):(D7 (some p)).length<=100000:=by
 unfold dK at hp;cases hl:x.pend with
 |nil=>rw[hl] at hp;cases hp
 |cons q rest=>
  obtain ⟨fr,e0⟩:=q;rw[hl] at hp;have hpr:=ho.pr (fr,e0) (by rw[hl];simp);have hs:=ho.ps.sum;dsimp only at hp hpr;split at hp
  ·cases hp;exact zl ho.ps
  ·split at hp
   ·cases hp
   ·rename_i hne;cases hp;have hb:=pz (eX x fr n) (e0+1-fr) fr;generalize qj (eX x fr n) (e0+1-fr) fr=J at*;unfold au at hpr;exact zl (sK x.ps 0 fr J ho.ps (eH _) (by omega) (by omega))
theorem LA {c:Cf} {st:Sd} {K:Nat} (hb:fu c st K) {now:Int} (n:Int) (ed:now<=9223372036854775807):(D7 (aZ c st now n).2.1).length<=100000:=by
 have h0:(D7 none).length<=100000:=by simp[D7]
 unfold aZ;split
 ·exact h0
 split
 ·exact h0
 have hb1:lK (aB c st now) (K+3):=(hb.bnd.tick c ed).mono (by omega);have hi1:=hb.inv.tick c now;unfold kF;split
 ·exact h0
 dsimp only;generalize aB c st now=s1 at*;cases hp:gZ s1.out with
 |some i=>
  obtain ⟨x,hx,_⟩:=fH hp;simp only[hx];cases hq:(dK c n s1 i x).2 with
  |none=>exact h0
  |some p=>exact N6 (hb1.ou x (iT hx)) hq
 |none=>
  dsimp only;by_cases hw:512<=s1.out.length
  ·have e:bU c n s1=(s1,none):=by unfold bU;rw[bD hw]
   rw[e];exact h0
  by_cases hne:(aJ n s1).ps= []
  ·have e:bU c n s1=(s1,none):=by unfold bU;rw[aP hw,bD hne]
   rw[e];exact h0
  have e:bU c n s1=((aG c (cK s1 (aJ n s1)) (dF c (cK s1 (aJ n s1)))).1,some (aJ n s1,(aG c (cK s1 (aJ n s1)) (dF c (cK s1 (aJ n s1)))).2)):=by unfold bU;rw[aP hw,aP hne]
  rw[e];exact zl (chunk_ok hb1 hi1.toInvV n hne).ps
theorem Iu {c:Cf} {s:Sd} {r:Rc} {K:Nat} (ho:fu c s K) {now:Int} (n:Int) (ed:now<=9223372036854775807):(aF c s r now n).2.2.1.length<=100000:=by
 unfold aF;split
 ·simp
 split
 ·simp
 split
 ·simp
 split
 ·unfold dG;split
  ·simp
  split
  ·simp
  dsimp only;unfold encR;split
  ·rename_i hv;unfold bO at hv;simp only[gD,gY] at hv;exact N5 hv.2.1
  ·simp
 ·exact LA (ho.tick now ed) n ed
structure tZ (c:Cf) (a b:En) (G J K:Nat):Prop where
 da:jg G a b
 db:jg G b a
 oa:fu c a.s K
 ob:fu c b.s K
 ra:wW c a.r
 rb:wW c b.r
 sa:∀x∈a.sent,x≠ []/\x.length<=100000
 sb:∀x∈b.sent,x≠ []/\x.length<=100000
 la:a.sent.length<=J
 lb:b.sent.length<=J
 ia:a.iA.length<=J
 ib:b.iA.length<=J
section
variable {c:Cf} {a b:En} {G J K J' K':Nat}
theorem tZ.swap (h:tZ c a b G J K):tZ c b a G J K:=⟨h.db,h.da,h.ob,h.oa,h.rb,h.ra,h.sb,h.sa,h.lb,h.la,h.ib,h.ia⟩
theorem tZ.mono (h:tZ c a b G J K) (hJ:J<=J') (hK:K<=K'):tZ c a b G J' K':=
 ⟨h.da,h.db,h.oa.mono hK,h.ob.mono hK,h.ra,h.rb,h.sa,h.sb,gG h.la hJ,gG h.lb hJ,gG h.ia hJ,gG h.ib hJ⟩
theorem jg.more (h:jg G a b) {G':Nat} (hG:G<=G'):jg G' a b:=by
 obtain ⟨N,pu,left,sent,hN,hh⟩:=h;exact ⟨N,pu,left,sent,gG hN hG,hh⟩
theorem tZ.N7 (h:tZ c a b G J K) {G':Nat} (hG:G<=G'):tZ c a b G' J K:=⟨h.da.more hG,h.db.more hG,h.oa,h.ob,h.ra,h.rb,h.sa,h.sb,h.la,h.lb,h.ia,h.ib⟩
theorem tZ.ko (h:tZ c a b G J K) (hG:G<511) (hK:K<=80000) (now n:Int) (ed:now<=9223372036854775807):tZ c (dL c a now n) b (G+1) (J+1) (K+6):=by
 obtain ⟨o1,o2⟩:=zk h.oa h.ra ed n;have hsh:=Iu (r:=a.r) h.oa n ed;refine ⟨h.da.ko hG h.oa hK now n ed h.db,h.db.granted hG h.oa hK now n ed h.da,o1,h.ob.mono (by omega),o2,h.rb,fun x hx=> ?_,h.sb,?_,IB h.lb,IB h.ia,IB h.ib⟩
 ·rcases qE hx with e|⟨rfl,e⟩
  ·exact h.sa x e
  ·exact ⟨e,hsh⟩
 ·show (if (aF c a.s a.r now n).2.2.1= [] then a.sent else a.sent++ [(aF c a.s a.r now n).2.2.1]).length<=J+1
  have:=h.la;split
  ·omega
  ·rw[l8,jh,gQ];omega
theorem tZ.recv (h:tZ c a b G J K) (now:Int) (ed:now<=9223372036854775807) {x:List UInt8} (hx:x∈b.sent):tZ c (lU c a now x) b G J (K+3)/\a.out+(aS c a.s a.r now x).2.2.1.length<=b.iA.length/\(aS c a.s a.r now x).2.2.1=(b.iA.drop a.out).take (aS c a.s a.r now x).2.2.1.length:=by
 obtain ⟨o1,o2⟩:=nR h.oa h.ra ed x;obtain ⟨d1,d2,d3⟩:=h.db.data hx (h.sb x hx).1 now;exact ⟨⟨h.da.report hx (h.sb x hx).1 now,d1,o1,h.ob.mono (by omega),o2,h.rb,h.sa,h.sb,h.la,h.lb,h.ia,h.ib⟩,d2,d3⟩
theorem uM {s:Sd} {x:List UInt8} (h:(bV c s x).2=0):bV c s x=(dQ s x,0)/\1<=x.length:=by
 unfold bV at h ⊢;split at h
 ·exact absurd h (by show ¬(8:Int)=0;decide)
 split at h
 ·exact absurd h (by show ¬(2:Int)=0;decide)
 split at h
 ·exact absurd h (by show ¬(7:Int)=0;decide)
 rename_i h1 h2 h3;rw[aP h1,aP h2,aP h3];exact ⟨rfl,by omega⟩
theorem N8 {s:Sd} {x:List UInt8} (h:(bV c s x).2≠0):(bV c s x).1=s:=by
 unfold bV at h ⊢;split
 ·rfl
 split
 ·rfl
 split
 ·rfl
 rename_i h1 h2 h3;rw[aP h1,aP h2,aP h3] at h;exact absurd rfl h
def uN (c:Cf) (a:En) (x:List UInt8):En:=if (bV c a.s x).2=0 then {a with s:=dQ a.s x,iA:=a.iA++ [x]} else a
theorem tZ.iY (h:tZ c a b G J K) {x:List UInt8} (hx:x.length<=60):tZ c (uN c a x) b G (J+1) K:=by
 unfold uN;split
 ·rename_i e;obtain ⟨e1,e2⟩:=uM e;have ho:=h.oa.iY x;rw[e1] at ho;refine ⟨h.da.iY e2 hx,h.db.other _ _,ho,h.ob,h.ra,h.rb,h.sa,h.sb,IB h.la,IB h.lb,?_,IB h.ib⟩;have:=h.ia;simp;omega
 ·exact h.mono (vQ _) (aL)
def oF (c:Cf) (a b:En) (now what:Int) (n pick:UInt8) (x:List UInt8):En × En × Int:=
 if what=0 then (uN c a x,b,now)
 else if what=1\/what=2\/what=3 then (dL c a now (n.toNat:Int),b,now)
 else if what=4\/what=5\/what=6\/what=7 then (match b.sent[pick.toNat%b.sent.length]? with
  |none=>a
  |some y=>lU c a now y,b,now)
 else (a,b,now+((n.toNat%8:Nat):Int))
theorem ZI (c:Cf) (a b:En) (now what:Int) (n pick:UInt8) (x:List UInt8):(oF c a b now what n pick x).2.1=b:=by
 unfold oF;split
 ·rfl
 split
 ·rfl
 split<;>rfl
theorem Cv (c:Cf) (a b:En) (now what:Int) (n pick:UInt8) (x:List UInt8):now<=(oF c a b now what n pick x).2.2/\(oF c a b now what n pick x).2.2<=now+7:=by
 unfold oF;have:=zI n.toNat (show 8>0 by omega);split
 ·dsimp only;omega
 split
 ·dsimp only;omega
 split
 ·dsimp only;omega
 ·dsimp only;omega
theorem tZ.step (h:tZ c a b G J K) (hG:G<511) (hK:K<=80000) {now:Int} (ed:now<=9223372036854775807) (what:Int) (n pick:UInt8) {x:List UInt8} (hx:x.length<=60):
 tZ c (oF c a b now what n pick x).1 (oF c a b now what n pick x).2.1 (G+1) (J+1) (K+6):=by
 unfold oF;split
 ·exact ((h.iY hx).N7 (vQ _)).mono (aL) (by omega)
 split
 ·exact h.ko hG hK now _ ed
 split
 ·dsimp only;split
  ·exact (h.N7 (vQ _)).mono (vQ _) (by omega)
  ·rename_i y hy;exact ((h.recv now ed (iT hy)).1.N7 (vQ _)).mono (vQ _) (by omega)
 ·exact (h.N7 (vQ _)).mono (vQ _) (by omega)
end
end Go.Proofs.YtbhiklnljiehiaaGreat
