/- law37: num, same, lists, few. -/
import Derived.Test.YtbhiklnljiehiaaGreatM1ak
namespace Go.Proofs.YtbhiklnljiehiaaGreat
section
open Go.RowKit Go.Shelf
attribute [local go_sem] Oper.semAt_some
theorem kZ (x:Int) (w:World):Calls Tryz.prog 20 #[.int .i64 x] w fun e w'=>e= .returned (.int .i64 x)∧w=w':=by
 go_enter Tryz.func20,Tryz.ntmps20;go_wp2;go_ret;exact ⟨rfl,rfl⟩
theorem Le (A B:Option Addr) (n c m d:Nat) (a b:List UInt8) (w:World) (ha:Sl w w.heap.size A n c (bQ a)) (hb:Sl w w.heap.size B m d (bQ b)):
 Calls Tryz.prog 74 #[.slice A n c,.slice B m d] w fun e w'=>e= .returned (.bool (a==b))∧w=w':=by
 have h1:=vI ha;have h2:=vI hb;clear ha hb;go_enter Tryz.func74,Tryz.ntmps74;go_wp2;go_ret;exact ⟨rfl,rfl⟩
set_option maxRecDepth 100000 in
set_option maxHeartbeats 1000000 in
theorem nY (A B:Option Addr) (n c m d:Nat) (vs us:List Value) (ps qs:List (List UInt8)) (w:World) (h:jd w w.heap.size A n c vs ps) (k:jd w w.heap.size B m d us qs):
 Calls Tryz.prog 47 #[.slice A n c,.slice B m d] w fun e w'=>e= .returned (.bool (ps==qs))∧Below w.heap.size w w':=by
 have hcap:=h.sl.cap;have hmx:=h.sl.mx;have ao3:=k.sl.cap;have kmx:=k.sl.mx;have HL:=ah h.len;have KL:=ah k.len;have HH:=ah h;have HK:=ah k;clear h k;by_cases hnm:n=m
 ·subst hnm;go_enter Tryz.func47,Tryz.ntmps47;go_wp2;go_loopg [5] n (fun gk s5 wr=>Below w.heap.size w wr∧∃i:Nat,s5= .int .i64 i∧i≤n∧gk+i=n∧∀k,k<i→ps[k]? =qs[k]?)
  case atStart=>exact ⟨Below.refl _ _,0,rfl,by omega,rfl,fun k hk=>by omega⟩
  case round=>
   obtain ⟨hb,i,rfl,hin,NB,hall⟩:=hrel;have HGK:=ah NB;have HA:=ah hall;have HB:=ah hb;clear NB hall hb;by_cases hlt:i<n
   ·obtain ⟨ad,Ai,ci,rfl,hba,hc,hsl⟩:=((HH.out.below HB.out).more HB.out.size).get hlt;obtain ⟨bd,Bi,di,rfl,hbb,kc,ksl⟩:=((HK.out.below HB.out).more HB.out.size).get hlt;have e1:ps[i]? =some (ps[i]?.getD []):=by rw[List.getElem?_eq_getElem (by have:=HL.out;omega)];rfl
    have e2:qs[i]? =some (qs[i]?.getD []):=by rw[List.getElem?_eq_getElem (by have:=KL.out;omega)];rfl
    have E1:=ah e1;have E2:=ah e2;clear e1 e2;generalize ps[i]?.getD []=p at*;generalize qs[i]?.getD []=q at*;have hc1:=hsl.cap;have hm1:=hsl.mx;have kc1:=ksl.cap;have km1:=ksl.mx;have hsm:=fun q'=>Le Ai Bi p.length ci q.length di p q (wr.drewN q') (hsl.drewN q') (ksl.drewN q')
    obtain ⟨bq,hbq⟩:∃bq:Bool,bq=(p==q):=⟨_,rfl⟩
    simp only[←hbq] at hsm;have HBQ:=ah hbq;have vE:=ah hsm;clear hsl ksl hsm hbq;go_wp2_with fail
    go_quiet ((go_at_call 74;exact Calls.quiet_of_same ((vE.out _).mono fun _ _ hh=>⟨hh.1,hh.2.symm⟩)))
    cases bq with
    |true=>
     have hpq:p=q:=eq_of_beq HBQ.out.symm;have Zl:=ah hpq;clear hpq;have hB2:=HB.out.drewN nq;have HB2:=ah hB2;clear hB2;go_wp2
     go_roundg (n-(i+1))
     case measure=>have:=HGK.out;omega
     case rel=>
      refine ⟨HB2.out,i+1,by go_num,by omega,by omega,fun k hk=> ?_⟩;rcases Nat.lt_or_ge k i with h1|h1
      ·exact HA.out k h1
      ·rw[show k=i by omega,E1.out,E2.out,Zl.out]
    |false=>
     have hpq:¬p=q:=fun e=>by have:=HBQ.out;rw[e] at this;simp at this
     have hne:(ps==qs)=false:=by
      cases hh:(ps==qs) with
      |false=>rfl
      |true=>
       have e:=eq_of_beq hh;have e1:=E1.out;rw[e,E2.out] at e1;exact absurd (Option.some.inj e1).symm hpq
     have Y5:=ah hne;have HB2:=ah (HB.out.drewN nq);clear hne hpq;go_wp2;go_ret;exact ⟨by rw[Y5.out];rfl,HB2.out⟩
   ·have hin2:i=n:=by omega
    have heq:(ps==qs)=true:=by
     have:ps=qs:=List.ext_getElem? fun k=>by
      rcases Nat.lt_or_ge k n with h1|h1
      ·exact HA.out k (by omega)
      ·rw[List.getElem?_eq_none (by have:=HL.out;omega),List.getElem?_eq_none (by have:=KL.out;omega)]
     rw[this];simp
    have Z7:=ah heq;clear heq hin2;go_wp2;go_ret;exact ⟨by rw[Z7.out];rfl,HB.out⟩
 ·have hne:(ps==qs)=false:=by
   cases hh:(ps==qs) with
   |false=>rfl
   |true=>
    have e:=eq_of_beq hh;have h1:=HL.out;have h2:=KL.out;rw[e] at h1;omega
  have Y5:=ah hne;have d1:((n:Int) !=(m:Int))=true:=by simp;omega
  clear hne hnm;go_enter Tryz.func47,Tryz.ntmps47;go_wp2;go_ret;exact ⟨by rw[Y5.out];rfl,Below.refl _ _⟩
end
end Go.Proofs.YtbhiklnljiehiaaGreat
