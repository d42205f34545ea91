/- law37, plain: what holds of a link; its. -/
import Derived.Test.YtbhiklnljiehiaaGreatM1bs
namespace Go.Proofs.YtbhiklnljiehiaaGreat
section
open Go.RowKit
theorem uW {sn off:Nat} {po sg la s e:Bool} {ps:List (List UInt8)} (h:ol ps):(oD sn po sg la off s e ps).length≤100000:=by
 rw[yT];have h1:=h.hi;have h2:=h.sum;unfold aV;split<;>omega
theorem Ru (more:Bool) (x:Nk):(rD more x).length≤42:=by
 unfold rD;split<;>simp
theorem Jr:∀l:List Nk,(kC l).length≤42*l.length
 | []=>by simp[kC]
 |x::r=>by
  have h1:=Ru (decide (0<r.length)) x;have h2:=Jr r;rw[kC,List.length_append,List.length_cons];omega
theorem Js {aJ:Nat} {l:List Nk} (h:l.length≤512):(rA aJ l).length≤100000:=by
 have:=Jr l;rw[LH,iy];unfold aV;simp only[List.length_append,og];omega
theorem Jt {c:Cf} {n:Int} {st:Sd} {i:Nat} {x:Ou} (ho:zn x) {p:Pu} (hp:(fQ c n st i x).2=some p):(IU (some p)).length≤100000:=by
 unfold fQ at hp;cases hl:x.pend with
 |nil=>rw[hl] at hp;cases hp
 |cons q rest=>
  obtain ⟨fr,e0⟩:=q;rw[hl] at hp;have hpr:=ho.pr (fr,e0) (by rw[hl];simp);have hs:=ho.ps.sum;dsimp only at hp hpr;split at hp
  ·cases hp;exact uW ho.ps
  ·split at hp
   ·cases hp
   ·rename_i hne;cases hp;have hb:=su (fP x fr n) (e0+1-fr) fr;generalize qg (fP x fr n) (e0+1-fr) fr=J at*;unfold aC at hpr;exact uW (sK x.ps 0 fr J ho.ps (Nat.zero_le _) (by omega) (by omega))
theorem Gu {c:Cf} {st:Sd} {K:Nat} (hb:fq c st K) {now:Int} (n:Int) (dM:now≤9223372036854775807):(IU (bV c st now n).2.1).length≤100000:=by
 have h0:(IU none).length≤100000:=by simp[IU]
 unfold bV;split
 ·exact h0
 split
 ·exact h0
 have hb1:jW (eX c st now) (K+3):=(hb.bnd.tick c dM).mono (by omega);have hi1:=hb.inv.tick c now;unfold mM;split
 ·exact h0
 dsimp only;generalize eX c st now=s1 at*;cases hp:gU s1.out with
 |some i=>
  obtain ⟨x,hx,_⟩:=gI hp;simp only[hx];cases hq:(fQ c n s1 i x).2 with
  |none=>exact h0
  |some p=>exact Jt (hb1.ou x (List.mem_of_getElem? hx)) hq
 |none=>
  dsimp only;by_cases hw:512≤s1.out.length
  ·have e:fA c n s1=(s1,none):=by unfold fA;rw[if_pos hw]
   rw[e];exact h0
  by_cases hne:(bH n s1).ps= []
  ·have e:fA c n s1=(s1,none):=by unfold fA;rw[if_neg hw,if_pos hne]
   rw[e];exact h0
  have e:fA c n s1=((bK c (eD s1 (bH n s1)) (iV c (eD s1 (bH n s1)))).1,some (bH n s1,(bK c (eD s1 (bH n s1)) (iV c (eD s1 (bH n s1)))).2)):=by unfold fA;rw[if_neg hw,if_neg hne]
  rw[e];exact uW (chunk_ok hb1 hi1.toInvV n hne).ps
theorem DD {c:Cf} {s:Sd} {r:Rc} {K:Nat} (ho:fq c s K) {now:Int} (n:Int) (dM:now≤9223372036854775807):(aM c s r now n).2.2.1.length≤100000:=by
 unfold aM;split
 ·simp
 split
 ·simp
 split
 ·simp
 split
 ·unfold dS;split
  ·simp
  split
  ·simp
  dsimp only;unfold encR;split
  ·rename_i hv;unfold bS at hv;simp only[Bool.and_eq_true,decide_eq_true_eq] at hv;exact Js hv.2.1
  ·simp
 ·exact Gu (ho.tick now dM) n dM
structure yu (c:Cf) (a b:En) (G J K:Nat):Prop where
 da:jo G a b
 db:jo G b a
 oa:fq c a.s K
 ob:fq c b.s K
 ra:tC c a.r
 rb:tC c b.r
 sa:∀x∈a.sent,x≠ []∧x.length≤100000
 sb:∀x∈b.sent,x≠ []∧x.length≤100000
 la:a.sent.length≤J
 lb:b.sent.length≤J
 ia:a.iD.length≤J
 ib:b.iD.length≤J
section
variable {c:Cf} {a b:En} {G J K J' K':Nat}
theorem yu.swap (h:yu c a b G J K):yu c b a G J K:=⟨h.db,h.da,h.ob,h.oa,h.rb,h.ra,h.sb,h.sa,h.lb,h.la,h.ib,h.ia⟩
theorem yu.mono (h:yu c a b G J K) (hJ:J≤J') (hK:K≤K'):yu c a b G J' K':=
 ⟨h.da,h.db,h.oa.mono hK,h.ob.mono hK,h.ra,h.rb,h.sa,h.sb,Nat.le_trans h.la hJ,Nat.le_trans h.lb hJ,Nat.le_trans h.ia hJ,Nat.le_trans h.ib hJ⟩
theorem jo.more (h:jo G a b) {G':Nat} (hG:G≤G'):jo G' a b:=by
 obtain ⟨N,pu,left,sent,hN,hh⟩:=h;exact ⟨N,pu,left,sent,Nat.le_trans hN hG,hh⟩
theorem yu.Mk (h:yu c a b G J K) {G':Nat} (hG:G≤G'):yu c a b G' J K:=⟨h.da.more hG,h.db.more hG,h.oa,h.ob,h.ra,h.rb,h.sa,h.sb,h.la,h.lb,h.ia,h.ib⟩
theorem yu.kI (h:yu c a b G J K) (hG:G<511) (hK:K≤80000) (now n:Int) (dM:now≤9223372036854775807):yu c (jM c a now n) b (G+1) (J+1) (K+6):=by
 obtain ⟨o1,o2⟩:=CB h.oa h.ra dM n;have hsh:=DD (r:=a.r) h.oa n dM;refine ⟨h.da.kI hG h.oa hK now n dM h.db,h.db.granted hG h.oa hK now n dM h.da,o1,h.ob.mono (by omega),o2,h.rb,fun x hx=> ?_,h.sb,?_,Nat.le_succ_of_le h.lb,Nat.le_succ_of_le h.ia,Nat.le_succ_of_le h.ib⟩
 ·rcases nk hx with e|⟨rfl,e⟩
  ·exact h.sa x e
  ·exact ⟨e,hsh⟩
 ·show (if (aM c a.s a.r now n).2.2.1= [] then a.sent else a.sent++ [(aM c a.s a.r now n).2.2.1]).length≤J+1
  have:=h.la;split
  ·omega
  ·rw[List.length_append,List.length_cons,List.length_nil];omega
theorem yu.recv (h:yu c a b G J K) (now:Int) (dM:now≤9223372036854775807) {x:List UInt8} (hx:x∈b.sent):yu c (nu c a now x) b G J (K+3)∧a.out+(bF c a.s a.r now x).2.2.1.length≤b.iD.length∧(bF c a.s a.r now x).2.2.1=(b.iD.drop a.out).take (bF c a.s a.r now x).2.2.1.length:=by
 obtain ⟨o1,o2⟩:=mD h.oa h.ra dM x;obtain ⟨d1,d2,d3⟩:=h.db.data hx (h.sb x hx).1 now;exact ⟨⟨h.da.report hx (h.sb x hx).1 now,d1,o1,h.ob.mono (by omega),o2,h.rb,h.sa,h.sb,h.la,h.lb,h.ia,h.ib⟩,d2,d3⟩
theorem qC {s:Sd} {x:List UInt8} (h:(aW c s x).2=0):aW c s x=(eG s x,0)∧1≤x.length:=by
 unfold aW at h ⊢;split at h
 ·exact absurd h (by show ¬(8:Int)=0;decide)
 split at h
 ·exact absurd h (by show ¬(2:Int)=0;decide)
 split at h
 ·exact absurd h (by show ¬(7:Int)=0;decide)
 rename_i h1 h2 h3;rw[if_neg h1,if_neg h2,if_neg h3];exact ⟨rfl,by omega⟩
theorem za {s:Sd} {x:List UInt8} (h:(aW c s x).2≠0):(aW c s x).1=s:=by
 unfold aW at h ⊢;split
 ·rfl
 split
 ·rfl
 split
 ·rfl
 rename_i h1 h2 h3;rw[if_neg h1,if_neg h2,if_neg h3] at h;exact absurd rfl h
def qD (c:Cf) (a:En) (x:List UInt8):En:=if (aW c a.s x).2=0 then {a with s:=eG a.s x,iD:=a.iD++ [x]} else a
theorem yu.iK (h:yu c a b G J K) {x:List UInt8} (hx:x.length≤60):yu c (qD c a x) b G (J+1) K:=by
 unfold qD;split
 ·rename_i e;obtain ⟨e1,e2⟩:=qC e;have ho:=h.oa.iK x;rw[e1] at ho;refine ⟨h.da.iK e2 hx,h.db.other _ _,ho,h.ob,h.ra,h.rb,h.sa,h.sb,Nat.le_succ_of_le h.la,Nat.le_succ_of_le h.lb,?_,Nat.le_succ_of_le h.ib⟩;have:=h.ia;simp;omega
 ·exact h.mono (Nat.le_succ _) (aN)
def kP (c:Cf) (a b:En) (now what:Int) (n pick:UInt8) (x:List UInt8):En × En × Int:=
 if what=0 then (qD c a x,b,now)
 else if what=1∨what=2∨what=3 then (jM c a now (n.toNat:Int),b,now)
 else if what=4∨what=5∨what=6∨what=7 then (match b.sent[pick.toNat%b.sent.length]? with
  |none=>a
  |some y=>nu c a now y,b,now)
 else (a,b,now+((n.toNat%8:Nat):Int))
theorem Ml (c:Cf) (a b:En) (now what:Int) (n pick:UInt8) (x:List UInt8):(kP c a b now what n pick x).2.1=b:=by
 unfold kP;split
 ·rfl
 split
 ·rfl
 split<;>rfl
theorem sQ (c:Cf) (a b:En) (now what:Int) (n pick:UInt8) (x:List UInt8):now≤(kP c a b now what n pick x).2.2∧(kP c a b now what n pick x).2.2≤now+7:=by
 unfold kP;have:=Nat.mod_lt n.toNat (show 8>0 by omega);split
 ·dsimp only;omega
 split
 ·dsimp only;omega
 split
 ·dsimp only;omega
 ·dsimp only;omega
theorem yu.step (h:yu c a b G J K) (hG:G<511) (hK:K≤80000) {now:Int} (dM:now≤9223372036854775807) (what:Int) (n pick:UInt8) {x:List UInt8} (hx:x.length≤60):
 yu c (kP c a b now what n pick x).1 (kP c a b now what n pick x).2.1 (G+1) (J+1) (K+6):=by
 unfold kP;split
 ·exact ((h.iK hx).Mk (Nat.le_succ _)).mono (aN) (by omega)
 split
 ·exact h.kI hG hK now _ dM
 split
 ·dsimp only;split
  ·exact (h.Mk (Nat.le_succ _)).mono (Nat.le_succ _) (by omega)
  ·rename_i y hy;exact ((h.recv now dM (List.mem_of_getElem? hy)).1.Mk (Nat.le_succ _)).mono (Nat.le_succ _) (by omega)
 ·exact (h.Mk (Nat.le_succ _)).mono (Nat.le_succ _) (by omega)
end
end
end Go.Proofs.YtbhiklnljiehiaaGreat
