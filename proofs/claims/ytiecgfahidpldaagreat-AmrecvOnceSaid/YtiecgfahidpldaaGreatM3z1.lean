/- PROVED: 'Rows.AmrecvOnceSaid': the law's Go text answers true for every input. -/
import Derived.Test.YtiecgfahidpldaaGreatM3bd
import Derived.Test.YtiecgfahidpldaaGreatRows
namespace Go.Proofs.YtiecgfahidpldaaGreat
section
open Go.ChangeShapes Go.WideShapes Go.ChangeAt Go.RowKit Go.Deep Go.Joins
set_option maxRecDepth 100000 in
theorem uM (os:Os) (started:os.Started) (H:Type) (enc:TypeId × Value→H):
 ReturnsInHanded {} Tryz.checked os 5 .any (Rows.amrecvOnceSpec.pre6 enc Tryz.prog Tryz.f5 Rows.amrecvOnceRow.domain false) (Rows.amrecvOnceSpec.post enc Tryz.prog Tryz.f5 false true false false):=by
 refine returnsInHanded_of_change (C:=Tryz.checked) BH started (by kernel_rfl) Tryz.func5
  (ChangeSpec.witness6 (enc:=enc) (C:=Tryz.checked) false ⟨#[],#[.slice none 0 0,.slice none 0 0,.slice none 0 0],[]⟩ 8 (by kernel_rfl) (by kernel_rfl) (by kernel_rfl) (by kernel_rfl)) ?_
 intro W base args ds gs before hval0 hW hcnd _;have hval:∀(j:Nat) t v,Tryz.f5.params[j]? =some t→args[j]? =some v→Value.okWide Tryz.prog W .any base t v:=hval0
 have hW':=hW;obtain ⟨p,q,CB,hV,rfl,hfz,hnd⟩:=hW;have hA:DataW.TrodAll enc Tryz.prog W 0 (fun _=>true) true Tryz.f5.params.toList args.toList ds p:=CB;rw[Tryz.params5] at hA hval;obtain ⟨v0,v1,v2,d0,d1,d2,p0,p1,p2,rfl,rfl,rfl,h0,h1,h2⟩:=trodAll_three hA;obtain ⟨rfl,rfl⟩:=trodVars_none hV;have lt0:∀x∈p0,x.block<W.heap.size:=by obtain ⟨m,hm⟩:=h0;exact DataW.trod_lt m _ _ _ hm
 have k0:=h0;have lt1:∀x∈p1,x.block<W.heap.size:=by obtain ⟨m,hm⟩:=h1;exact DataW.trod_lt m _ _ _ hm
 have k1:=h1;have lt2:∀x∈p2,x.block<W.heap.size:=by obtain ⟨m,hm⟩:=h2;exact DataW.trod_lt m _ _ _ hm
 have k2:=h2;obtain ⟨A0,n0,c0,vs0,l0,rfl,hs0⟩:=He (hval 0 34 v0 rfl rfl) h0;obtain ⟨A1,n1,c1,l1,rfl,hs1⟩:=xq (hval 1 22 v1 rfl rfl) h1;obtain ⟨A2,n2,c2,l2,rfl,hs2⟩:=JY (hval 2 67 v2 rfl rfl) h2;clear CB hval0;refine (zZ A0 n0 c0 vs0 l0 A1 n1 c1 l1 A2 n2 c2 l2 W hs0 hs1 hs2).mono fun e W' ⟨he,eH⟩=> ?_
 subst he;exact ⟨_,rfl,_,_,_,[],_,[],hW',trodAll_mk1 (shut_bool Tryz.underlying4 _),(trodAll_cons_mk (Below.trod jb (by kernel_rfl) (of_decide_eq_true (by kernel_rfl)) k0 eH lt0) (trodAll_cons_mk (Below.trod jb (by kernel_rfl) (of_decide_eq_true (by kernel_rfl)) k1 eH lt1) (trodAll_cons_mk (Below.trod jb (by kernel_rfl) (of_decide_eq_true (by kernel_rfl)) k2 eH lt2) trodAll_mk0))),rfl,eH.frame _,fun h=>by cases h⟩
theorem xk:Rows.amrecvOnceRow.holds Tryz.pinned (OpenSpec.ofChange Rows.amrecvOnceSpec):=
 OpenClaim.holds_of_wide 5 Tryz.f5 rfl rfl rfl rfl rfl rfl rfl ⟨rfl,rfl,rfl,rfl,rfl⟩ rfl rfl rfl rfl rfl (by kernel_rfl) Tryz.func5 (by kernel_rfl)
  (of_decide_eq_true (by kernel_rfl)) (by unfold Func.isWrapper;first|(rw[if_pos (by decide+kernel)];kernel_rfl)|(rw[if_neg (by decide+kernel)];exact ⟨rfl,rfl⟩))
  (fun os started H enc _=>uM os started H enc)
theorem amrecvOnce_proved:Rows.AmrecvOnceSaid:=xk
#print axioms amrecvOnce_proved
end
end Go.Proofs.YtiecgfahidpldaaGreat
