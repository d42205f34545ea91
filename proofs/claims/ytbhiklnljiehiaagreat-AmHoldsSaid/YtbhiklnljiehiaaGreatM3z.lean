/- PROVED: 'Rows.AmHoldsSaid': the law's Go text answers true for every input.. -/
import Derived.Test.YtbhiklnljiehiaaGreatM3bx
import Derived.Test.YtbhiklnljiehiaaGreatM3by
import Derived.Test.YtbhiklnljiehiaaGreatRows
set_option maxRecDepth 100000
namespace Go.Proofs.YtbhiklnljiehiaaGreat
section
open Go.ChangeShapes Go.WideShapes Go.ChangeAt Go.RowKit Go.Deep Go.Joins
theorem GH (os:Os) (started:os.Started) (H:Type) (enc:TypeId × Value->H):
 ReturnsInHanded {} Tryz.checked os 4 .any (Rows.amHoldsSpec.pre6 enc Tryz.prog Tryz.f4 Rows.amHoldsRow.domain false) (Rows.amHoldsSpec.post enc Tryz.prog Tryz.f4 false true false false):=by
 refine returnsInHanded_of_change (C:=Tryz.checked) Tx started (by kernel_rfl) Tryz.func4
  (ChangeSpec.witness6 (enc:=enc) (C:=Tryz.checked) false ⟨#[],#[.agg #[.int .i64 0,.int .i64 0,.int .i64 0,.int .i64 0,.int .i64 0,.int .i64 0,.int .i64 0],.slice none 0 0,.int .u8 0],[]⟩ 8 (by kernel_rfl) (by kernel_rfl) (by kernel_rfl) (by kernel_rfl)) ?_
 intro W base args ds gs before hval0 hW hcnd _;have hval:∀(j:Nat) t v,Tryz.f4.params[j]? =some t->args[j]? =some v->Value.okWide Tryz.prog W .any base t v:=hval0
 have hW':=hW;obtain ⟨p,q,Nj,hV,rfl,hfz,hnd⟩:=hW;have hA:DataW.TrodAll enc Tryz.prog W 0 (fun _=>true) true Tryz.f4.params.toList args.toList ds p:=Nj;rw[Tryz.params4] at hA hval;obtain ⟨v0,v1,v2,d0,d1,d2,p0,p1,p2,rfl,rfl,rfl,h0,h1,h2⟩:=trodAll_three hA;obtain ⟨rfl,rfl⟩:=trodVars_none hV;have lt0:∀x∈p0,x.block<W.heap.size:=by obtain ⟨m,hm⟩:=h0;exact DataW.trod_lt m _ _ _ hm
 have k0:=h0;have lt1:∀x∈p1,x.block<W.heap.size:=by obtain ⟨m,hm⟩:=h1;exact DataW.trod_lt m _ _ _ hm
 have k1:=h1;have lt2:∀x∈p2,x.block<W.heap.size:=by obtain ⟨m,hm⟩:=h2;exact DataW.trod_lt m _ _ _ hm
 have k2:=h2;obtain ⟨ano,anp,anq,anr,ant,anu,anv,rfl⟩:=Ty (hval 0 23 v0 rfl rfl) h0;obtain ⟨A1,n1,c1,l1,rfl,hs1⟩:=WM (hval 1 24 v1 rfl rfl) h1;obtain ⟨x2,rfl⟩:=WN (hval 2 5 v2 rfl rfl) h2;clear Nj hval0;refine (Oe ano anp anq anr ant anu anv A1 n1 c1 l1 x2 W hs1).mono fun e W' ⟨he,oz⟩=> ?_
 subst he;exact ⟨_,rfl,_,_,_,[],_,[],hW',trodAll_mk1 (shut_bool Tryz.underlying4 _),(trodAll_cons_mk (Below.trod zo (by kernel_rfl) (of_decide_eq_true (by kernel_rfl)) k0 oz lt0) (trodAll_cons_mk (Below.trod zo (by kernel_rfl) (of_decide_eq_true (by kernel_rfl)) k1 oz lt1) (trodAll_cons_mk (Below.trod zo (by kernel_rfl) (of_decide_eq_true (by kernel_rfl)) k2 oz lt2) trodAll_mk0))),rfl,oz.frame _,fun h=>by cases h⟩
theorem LF:Rows.amHoldsRow.holds Tryz.pinned (OpenSpec.ofChange Rows.amHoldsSpec):=
 OpenClaim.holds_of_wide 4 Tryz.f4 rfl rfl rfl rfl rfl rfl rfl ⟨rfl,rfl,rfl,rfl,rfl⟩ rfl rfl rfl rfl rfl (by kernel_rfl) Tryz.func4 (by kernel_rfl)
  (of_decide_eq_true (by kernel_rfl)) (by unfold Func.isWrapper;first|(rw[bD (by decide+kernel)];kernel_rfl)|(rw[aP (by decide+kernel)];exact ⟨rfl,rfl⟩))
  (fun os started H enc _=>GH os started H enc)
theorem amHolds_proved:Rows.AmHoldsSaid:=LF
#print axioms amHolds_proved
end
end Go.Proofs.YtbhiklnljiehiaaGreat
