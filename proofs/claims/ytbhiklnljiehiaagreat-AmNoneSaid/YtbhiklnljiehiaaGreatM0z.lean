/- PROVED: 'Rows.AmNoneSaid': the law's Go text answers true for every input. -/
import Derived.Test.YtbhiklnljiehiaaGreatM0ba
import Derived.Test.YtbhiklnljiehiaaGreatRows
namespace Go.Proofs.YtbhiklnljiehiaaGreat
section
open Go.ChangeShapes Go.WideShapes Go.ChangeAt Go.RowKit Go.Deep Go.Joins
set_option maxRecDepth 100000 in
theorem AO (os:Os) (started:os.Started) (H:Type) (enc:TypeId × Value→H):
 ReturnsInHanded {} Tryz.checked os 5 .any (Rows.amNoneSpec.pre6 enc Tryz.prog Tryz.f5 Rows.amNoneRow.domain false) (Rows.amNoneSpec.post enc Tryz.prog Tryz.f5 false true false false):=by
 refine returnsInHanded_of_change (C:=Tryz.checked) Jz started (by kernel_rfl) Tryz.func5
  (ChangeSpec.witness6 (enc:=enc) (C:=Tryz.checked) false ⟨#[],#[.agg #[.int .i64 0,.int .i64 0,.int .i64 0,.slice none 0 0],.bool false],[]⟩ 8 (by kernel_rfl) (by kernel_rfl) (by kernel_rfl) (by kernel_rfl)) ?_
 intro W base args ds gs before hval0 hW hcnd _;have hval:∀(j:Nat) t v,Tryz.f5.params[j]? =some t→args[j]? =some v→Value.okWide Tryz.prog W .any base t v:=hval0
 have hW':=hW;obtain ⟨p,q,EY,hV,rfl,hfz,hnd⟩:=hW;have hA:DataW.TrodAll enc Tryz.prog W 0 (fun _=>true) true Tryz.f5.params.toList args.toList ds p:=EY;rw[Tryz.params5] at hA hval;obtain ⟨v0,v1,d0,d1,p0,p1,rfl,rfl,rfl,h0,h1⟩:=trodAll_two hA;obtain ⟨rfl,rfl⟩:=trodVars_none hV;have lt0:∀x∈p0,x.block<W.heap.size:=by obtain ⟨m,hm⟩:=h0;exact DataW.trod_lt m _ _ _ hm
 have k0:=h0;have lt1:∀x∈p1,x.block<W.heap.size:=by obtain ⟨m,hm⟩:=h1;exact DataW.trod_lt m _ _ _ hm
 have k1:=h1;obtain ⟨x0,y0,z0,A0,n0,c0,rfl,hs0⟩:=IV (hval 0 46 v0 rfl rfl) h0;obtain ⟨x1,rfl⟩:=SF (hval 1 4 v1 rfl rfl) h1;clear EY hval0;refine (IR x0 y0 z0 A0 n0 c0 x1 W hs0).mono fun e W' ⟨he,Jw⟩=> ?_
 subst he;exact ⟨_,rfl,_,_,_,[],_,[],hW',trodAll_mk1 (shut_bool Tryz.underlying4 _),(trodAll_cons_mk (Below.trod xu (by kernel_rfl) (of_decide_eq_true (by kernel_rfl)) k0 Jw lt0) (trodAll_cons_mk (Below.trod xu (by kernel_rfl) (of_decide_eq_true (by kernel_rfl)) k1 Jw lt1) trodAll_mk0)),rfl,Jw.frame _,fun h=>by cases h⟩
theorem Ga:Rows.amNoneRow.holds Tryz.pinned (OpenSpec.ofChange Rows.amNoneSpec):=
 OpenClaim.holds_of_wide 5 Tryz.f5 rfl rfl rfl rfl rfl rfl rfl ⟨rfl,rfl,rfl,rfl,rfl⟩ rfl rfl rfl rfl rfl (by kernel_rfl) Tryz.func5 (by kernel_rfl)
  (of_decide_eq_true (by kernel_rfl)) (by unfold Func.isWrapper;first|(rw[if_pos (by decide+kernel)];kernel_rfl)|(rw[if_neg (by decide+kernel)];exact ⟨rfl,rfl⟩))
  (fun os started H enc _=>AO os started H enc)
theorem amNone_proved:Rows.AmNoneSaid:=Ga
#print axioms amNone_proved
end
end Go.Proofs.YtbhiklnljiehiaaGreat
