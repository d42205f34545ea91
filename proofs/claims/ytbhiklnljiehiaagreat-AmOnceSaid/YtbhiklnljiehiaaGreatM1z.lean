/- PROVED: 'Rows.AmOnceSaid': the law's Go text answers true for every input.. -/
import Derived.Test.YtbhiklnljiehiaaGreatM1bx
import Derived.Test.YtbhiklnljiehiaaGreatM1by
import Derived.Test.YtbhiklnljiehiaaGreatRows
namespace Go.Proofs.YtbhiklnljiehiaaGreat
section
open Go.ChangeShapes Go.WideShapes Go.ChangeAt Go.RowKit Go.Deep Go.Joins
set_option maxRecDepth 100000 in
theorem DF (os:Os) (started:os.Started) (H:Type) (enc:TypeId × Value→H):
 ReturnsInHanded {} Tryz.checked os 3 .any (Rows.amOnceSpec.pre6 enc Tryz.prog Tryz.f3 Rows.amOnceRow.domain false) (Rows.amOnceSpec.post enc Tryz.prog Tryz.f3 false true false false):=by
 refine returnsInHanded_of_change (C:=Tryz.checked) N8 started (by kernel_rfl) Tryz.func3
  (ChangeSpec.witness6 (enc:=enc) (C:=Tryz.checked) false ⟨#[],#[.agg #[.int .i64 0,.int .i64 0,.int .i64 0,.int .i64 0,.int .i64 0,.int .i64 0,.int .i64 0],.slice none 0 0],[]⟩ 8 (by kernel_rfl) (by kernel_rfl) (by kernel_rfl) (by kernel_rfl)) ?_
 intro W base args ds gs before hval0 hW hcnd _;have hval:∀(j:Nat) t v,Tryz.f3.params[j]? =some t→args[j]? =some v→Value.okWide Tryz.prog W .any base t v:=hval0
 have hW':=hW;obtain ⟨p,q,Iy,hV,rfl,hfz,hnd⟩:=hW;have hA:DataW.TrodAll enc Tryz.prog W 0 (fun _=>true) true Tryz.f3.params.toList args.toList ds p:=Iy;rw[Tryz.params3] at hA hval;obtain ⟨v0,v1,d0,d1,p0,p1,rfl,rfl,rfl,h0,h1⟩:=trodAll_two hA;obtain ⟨rfl,rfl⟩:=trodVars_none hV;have lt0:∀x∈p0,x.block<W.heap.size:=by obtain ⟨m,hm⟩:=h0;exact DataW.trod_lt m _ _ _ hm
 have k0:=h0;have lt1:∀x∈p1,x.block<W.heap.size:=by obtain ⟨m,hm⟩:=h1;exact DataW.trod_lt m _ _ _ hm
 have k1:=h1;obtain ⟨aiH,aiI,aiJ,aiK,aiL,aiM,aiN,rfl⟩:=N9 (hval 0 23 v0 rfl rfl) h0;obtain ⟨A1,n1,c1,l1,rfl,hs1⟩:=RE (hval 1 24 v1 rfl rfl) h1;clear Iy hval0;refine (Lh aiH aiI aiJ aiK aiL aiM aiN A1 n1 c1 l1 W hs1).mono fun e W' ⟨he,lN⟩=> ?_
 subst he;exact ⟨_,rfl,_,_,_,[],_,[],hW',trodAll_mk1 (shut_bool Tryz.underlying4 _),(trodAll_cons_mk (Below.trod CJ (by kernel_rfl) (of_decide_eq_true (by kernel_rfl)) k0 lN lt0) (trodAll_cons_mk (Below.trod CJ (by kernel_rfl) (of_decide_eq_true (by kernel_rfl)) k1 lN lt1) trodAll_mk0)),rfl,lN.frame _,fun h=>by cases h⟩
theorem Jv:Rows.amOnceRow.holds Tryz.pinned (OpenSpec.ofChange Rows.amOnceSpec):=
 OpenClaim.holds_of_wide 3 Tryz.f3 rfl rfl rfl rfl rfl rfl rfl ⟨rfl,rfl,rfl,rfl,rfl⟩ rfl rfl rfl rfl rfl (by kernel_rfl) Tryz.func3 (by kernel_rfl)
  (of_decide_eq_true (by kernel_rfl)) (by unfold Func.isWrapper;first|(rw[if_pos (by decide+kernel)];kernel_rfl)|(rw[if_neg (by decide+kernel)];exact ⟨rfl,rfl⟩))
  (fun os started H enc _=>DF os started H enc)
theorem amOnce_proved:Rows.AmOnceSaid:=Jv
#print axioms amOnce_proved
end
end Go.Proofs.YtbhiklnljiehiaaGreat
