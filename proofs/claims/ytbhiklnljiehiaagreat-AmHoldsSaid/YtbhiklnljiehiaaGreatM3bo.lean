/- law37: num, same, lists, few. -/
import Derived.Test.YtbhiklnljiehiaaGreatM3al
set_option maxHeartbeats 1000000
set_option maxRecDepth 100000
namespace Go.Proofs.YtbhiklnljiehiaaGreat
open RowKit Shelf Tryz
attribute [local go_sem] Oper.semAt_some
theorem pR (x:Int) (w:World):Calls prog 20 #[x] w fun e w'=>e= .returned x/\w=w':=by
 go_enter func20,ntmps20;go_wp2;go_ret;exact ⟨rfl,rfl⟩
theorem Qo (A B:Option Addr) (n c m d:Nat) (a b:List UInt8) (w:World) (ha:Sl w w A n c (dz a)) (hb:Sl w w B m d (dz b)):
 Calls prog 74 #[.slice A n c,.slice B m d] w fun e w'=>e= .returned (.bool (a==b))/\w=w':=by
 have h1:=zY ha;have h2:=zY hb;clear ha hb;go_enter func74,ntmps74;go_wp2;go_ret;exact ⟨rfl,rfl⟩
theorem rF (A B:Option Addr) (n c m d:Nat) (vs us:List Value) (ps qs:List (List UInt8)) (w:World) (h:jW w w A n c vs ps) (k:jW w w B m d us qs):
 Calls prog 47 #[.slice A n c,.slice B m d] w fun e w'=>e= .returned (.bool (ps==qs))/\Below w w w':=by
 have hcap:=h.sl.cap;have hmx:=h.sl.mx;have auh:=k.sl.cap;have kmx:=k.sl.mx;have HL:=ah h.len;have KL:=ah k.len;have HH:=ah h;have HK:=ah k;clear h k;by_cases hnm:n=m
 ·subst hnm;go_enter func47,ntmps47;go_wp2;go_loopg [5] n (fun gk s5 wr=>Below w w wr/\∃i:Nat,s5= .int .i64 i/\i<=n/\gk+i=n/\∀k,k<i->ps[k]? =qs[k]?)
  case atStart=>exact ⟨bS _ _,0,rfl,by omega,rfl,fun k hk=>by omega⟩
  case round=>
   obtain ⟨hb,i,rfl,hin,Sr,hall⟩:=hrel;have HGK:=ah Sr;have HA:=ah hall;have HB:=ah hb;clear Sr hall hb;by_cases hlt:i<n
   ·obtain ⟨ad,Ai,ci,rfl,hba,hc,hsl⟩:=((HH.out.below HB.out).more HB.out.size).get hlt;obtain ⟨bd,Bi,di,rfl,hbb,kc,ksl⟩:=((HK.out.below HB.out).more HB.out.size).get hlt;have e1:ps[i]? =some (ps[i]?.getD []):=by rw[gX (by have:=HL.out;omega)];rfl
    have e2:qs[i]? =some (qs[i]?.getD []):=by rw[gX (by have:=KL.out;omega)];rfl
    have E1:=ah e1;have E2:=ah e2;clear e1 e2;generalize ps[i]?.getD []=p at*;generalize qs[i]?.getD []=q at*;have hc1:=hsl.cap;have hm1:=hsl.mx;have kc1:=ksl.cap;have km1:=ksl.mx;have hsm:=fun q'=>Qo Ai Bi p.length ci q.length di p q (wr.drewN q') (hsl.drewN q') (ksl.drewN q')
    obtain ⟨bq,hbq⟩:∃bq:Bool,bq=(p==q):=⟨_,rfl⟩
    simp only[<-hbq] at hsm;have HBQ:=ah hbq;have zP:=ah hsm;clear hsl ksl hsm hbq;go_wp2_with fail
    go_quiet ((go_at_call 74;exact ve ((zP.out _).mono fun _ _ hh=>⟨hh.1,hh.2.symm⟩)))
    cases bq with
    |true=>
     have hpq:p=q:=eq_of_beq HBQ.out.symm;have HPQ:=ah hpq;clear hpq;have hB2:=HB.out.drewN nq;have HB2:=ah hB2;clear hB2;go_wp2
     go_roundg (n-(i+1))
     case measure=>have:=HGK.out;omega
     case rel=>
      refine ⟨HB2.out,i+1,by go_num,by omega,by omega,fun k hk=> ?_⟩;rcases kD k i with h1|h1
      ·exact HA.out k h1
      ·rw[show k=i by omega,E1.out,E2.out,HPQ.out]
    |false=>
     have hpq:¬p=q:=fun e=>by have:=HBQ.out;rw[e] at this;simp at this
     have hne:(ps==qs)=false:=by
      cases hh:(ps==qs) with
      |false=>rfl
      |true=>
       have e:=eq_of_beq hh;have e1:=E1.out;rw[e,E2.out] at e1;exact absurd (Option.some.inj e1).symm hpq
     have HNE:=ah hne;have HB2:=ah (HB.out.drewN nq);clear hne hpq;go_wp2;go_ret;exact ⟨by rw[HNE.out];rfl,HB2.out⟩
   ·have hin2:i=n:=by omega
    have heq:(ps==qs)=true:=by
     have:ps=qs:=zG fun k=>by
      rcases kD k n with h1|h1
      ·exact HA.out k (by omega)
      ·rw[kV (by have:=HL.out;omega),kV (by have:=KL.out;omega)]
     rw[this];simp
    have HEQ:=ah heq;clear heq hin2;go_wp2;go_ret;exact ⟨by rw[HEQ.out];rfl,HB.out⟩
 ·have hne:(ps==qs)=false:=by
   cases hh:(ps==qs) with
   |false=>rfl
   |true=>
    have e:=eq_of_beq hh;have h1:=HL.out;have h2:=KL.out;rw[e] at h1;omega
  have HNE:=ah hne;have d1:((n:Int) !=(m:Int))=true:=by simp;omega
  clear hne hnm;go_enter func47,ntmps47;go_wp2;go_ret;exact ⟨by rw[HNE.out];rfl,bS _ _⟩
end Go.Proofs.YtbhiklnljiehiaaGreat
