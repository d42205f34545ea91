/- PROVED: 'Rows.AmrecvNoneSaid': the law's Go text answers true for every input. -/
import Derived.Test.YtiecgfahidpldaaGreatM0ap
import Derived.Test.YtiecgfahidpldaaGreatRows
namespace Go.Proofs.YtiecgfahidpldaaGreat
section
open Go.ChangeShapes Go.WideShapes Go.ChangeAt Go.RowKit Go.Deep Go.Joins
set_option maxRecDepth 100000 in
theorem jS (os:Os) (started:os.Started) (H:Type) (enc:TypeId × Value→H):
 ReturnsInHanded {} Tryz.checked os 3 .any (Rows.amrecvNoneSpec.pre6 enc Tryz.prog Tryz.f3 Rows.amrecvNoneRow.domain false) (Rows.amrecvNoneSpec.post enc Tryz.prog Tryz.f3 false true false false):=by
 refine returnsInHanded_of_change (C:=Tryz.checked) uR started (by kernel_rfl) Tryz.func3
  (ChangeSpec.witness6 (enc:=enc) (C:=Tryz.checked) false ⟨#[],#[.agg #[.int .i64 0,.int .i64 0,.int .i64 0,.slice none 0 0],.bool false],[]⟩ 8 (by kernel_rfl) (by kernel_rfl) (by kernel_rfl) (by kernel_rfl)) ?_
 intro W base args ds gs before hval0 hW hcnd _;have hval:∀(j:Nat) t v,Tryz.f3.params[j]? =some t→args[j]? =some v→Value.okWide Tryz.prog W .any base t v:=hval0
 have RN:=hW;obtain ⟨p,q,Oq,hV,rfl,hfz,hnd⟩:=hW;have hA:DataW.TrodAll enc Tryz.prog W 0 (fun _=>true) true Tryz.f3.params.toList args.toList ds p:=Oq;rw[Tryz.params3] at hA hval;obtain ⟨v0,v1,d0,d1,p0,p1,rfl,rfl,rfl,h0,h1⟩:=trodAll_two hA;obtain ⟨rfl,rfl⟩:=trodVars_none hV;have RO:∀x∈p0,x.block<W.heap.size:=by obtain ⟨m,hm⟩:=h0;exact DataW.trod_lt m _ _ _ hm
 have k0:=h0;have RQ:∀x∈p1,x.block<W.heap.size:=by obtain ⟨m,hm⟩:=h1;exact DataW.trod_lt m _ _ _ hm
 have k1:=h1;obtain ⟨x0,y0,z0,A0,n0,c0,rfl,hs0⟩:=uk (hval 0 24 v0 rfl rfl) h0;obtain ⟨x1,rfl⟩:=BX (hval 1 4 v1 rfl rfl) h1;clear Oq hval0;refine (mY x0 y0 z0 A0 n0 c0 x1 W hs0).mono fun e W' ⟨he,Mi⟩=> ?_
 subst he;exact ⟨_,rfl,_,_,_,[],_,[],RN,trodAll_mk1 (shut_bool Tryz.underlying4 _),(trodAll_cons_mk (Below.trod lm (by kernel_rfl) (of_decide_eq_true (by kernel_rfl)) k0 Mi RO) (trodAll_cons_mk (Below.trod lm (by kernel_rfl) (of_decide_eq_true (by kernel_rfl)) k1 Mi RQ) trodAll_mk0)),rfl,Mi.frame _,fun h=>by cases h⟩
theorem kT:Rows.amrecvNoneRow.holds Tryz.pinned (OpenSpec.ofChange Rows.amrecvNoneSpec):=
 OpenClaim.holds_of_wide 3 Tryz.f3 rfl rfl rfl rfl rfl rfl rfl ⟨rfl,rfl,rfl,rfl,rfl⟩ rfl rfl rfl rfl rfl (by kernel_rfl) Tryz.func3 (by kernel_rfl)
  (of_decide_eq_true (by kernel_rfl)) (by unfold Func.isWrapper;first|(rw[if_pos (by decide+kernel)];kernel_rfl)|(rw[if_neg (by decide+kernel)];exact ⟨rfl,rfl⟩))
  (fun os started H enc _=>jS os started H enc)
theorem amrecvNone_proved:Rows.AmrecvNoneSaid:=kT
#print axioms amrecvNone_proved
end
end Go.Proofs.YtiecgfahidpldaaGreat
