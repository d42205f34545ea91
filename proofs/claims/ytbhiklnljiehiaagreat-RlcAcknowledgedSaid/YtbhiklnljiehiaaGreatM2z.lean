/- PROVED: 'Rows.RlcAcknowledgedSaid': the law's Go text answers true for every input.. -/
import Derived.Test.YtbhiklnljiehiaaGreatM2bw
import Derived.Test.YtbhiklnljiehiaaGreatM2bx
import Derived.Test.YtbhiklnljiehiaaGreatRows
namespace Go.Proofs.YtbhiklnljiehiaaGreat
section
open Go.ChangeShapes Go.WideShapes Go.ChangeAt Go.RowKit Go.Deep Go.Joins
set_option maxRecDepth 100000 in
theorem oM (os:Os) (started:os.Started) (H:Type) (enc:TypeId × Value→H):
 ReturnsInHanded {} Tryz.checked os 7 .any (Rows.rlcAcknowledgedSpec.pre6 enc Tryz.prog Tryz.f7 Rows.rlcAcknowledgedRow.domain false) (Rows.rlcAcknowledgedSpec.post enc Tryz.prog Tryz.f7 false true false false):=by
 refine returnsInHanded_of_change_sized (C:=Tryz.checked) Tm.Dt started (by kernel_rfl) Tryz.func7
  (ChangeSpec.witness6 (enc:=enc) (C:=Tryz.checked) false ⟨#[],#[.agg #[.int .i64 0,.int .i64 0,.int .i64 0,.int .i64 0,.int .i64 0,.int .i64 0,.int .i64 0],.slice none 0 0],[]⟩ 8 (by kernel_rfl) (by kernel_rfl) (by kernel_rfl) (by kernel_rfl)) ?_
 intro W base args ds gs before hval0 hW hcnd hsz0 _;have hsz1:(DataW.weightsEach Tryz.prog (Tryz.f7.params.toList++Rows.rlcAcknowledgedSpec.plain.varTypes Tryz.prog) (ds++gs)).all (·≤reachBytes)=true:=hsz0;have hval:∀(j:Nat) t v,Tryz.f7.params[j]? =some t→args[j]? =some v→Value.okWide Tryz.prog W .any base t v:=hval0
 have hW':=hW;obtain ⟨p,q,Gw,hV,rfl,hfz,hnd⟩:=hW;have hA:DataW.TrodAll enc Tryz.prog W 0 (fun _=>true) true Tryz.f7.params.toList args.toList ds p:=Gw;rw[Tryz.params7] at hA hval hsz1;obtain ⟨v0,v1,d0,d1,p0,p1,rfl,rfl,rfl,h0,h1⟩:=trodAll_two hA;obtain ⟨rfl,rfl⟩:=trodVars_none hV;have lt0:∀x∈p0,x.block<W.heap.size:=by obtain ⟨m,hm⟩:=h0;exact DataW.trod_lt m _ _ _ hm
 have k0:=h0;have lt1:∀x∈p1,x.block<W.heap.size:=by obtain ⟨m,hm⟩:=h1;exact DataW.trod_lt m _ _ _ hm
 have k1:=h1;obtain ⟨ahb,ahc,ahd,ahe,ahf,ahg,ahh,rfl⟩:=Nv (hval 0 23 v0 rfl rfl) h0;have hw:∀m∈d1.weights Tryz.prog 81,m≤140737488351232:=fun m hm=>
  of_decide_eq_true (List.all_eq_true.1 hsz1 m (DataW.weights_mem_each (j:=1) (t:=81) rfl rfl m hm))
 obtain ⟨A2,n2,c2,l2,rfl,hs2,hb2⟩:=Tm.Iu (hval 1 81 v1 rfl rfl) h1 hw;clear Gw hval0;refine (qY ahb ahc ahd ahe ahf ahg ahh A2 n2 c2 l2 W hs2 (fun y hy=>(hb2 y hy).1) (fun y hy=>(hb2 y hy).2)).mono fun e W' ⟨he,xO⟩=> ?_
 subst he;exact ⟨_,rfl,_,_,_,[],_,[],hW',trodAll_mk1 (shut_bool Tryz.underlying4 _),(trodAll_cons_mk (Below.trod Tm.sZ (by kernel_rfl) (of_decide_eq_true (by kernel_rfl)) k0 xO lt0) (trodAll_cons_mk (Below.trod Tm.sZ (by kernel_rfl) (of_decide_eq_true (by kernel_rfl)) k1 xO lt1) trodAll_mk0)),rfl,xO.frame _,fun h=>by cases h⟩
theorem qJ:Rows.rlcAcknowledgedRow.holds Tryz.pinned (OpenSpec.ofChange Rows.rlcAcknowledgedSpec):=
 OpenClaim.holds_of_wide 7 Tryz.f7 rfl rfl rfl rfl rfl rfl rfl ⟨rfl,rfl,rfl,rfl,rfl⟩ rfl rfl rfl rfl rfl (by kernel_rfl) Tryz.func7 (by kernel_rfl)
  (of_decide_eq_true (by kernel_rfl)) (by unfold Func.isWrapper;first|(rw[if_pos (by decide+kernel)];kernel_rfl)|(rw[if_neg (by decide+kernel)];exact ⟨rfl,rfl⟩))
  (fun os started H enc _=>oM os started H enc)
theorem rlcAcknowledged_proved:Rows.RlcAcknowledgedSaid:=qJ
#print axioms rlcAcknowledged_proved
end
end Go.Proofs.YtbhiklnljiehiaaGreat
