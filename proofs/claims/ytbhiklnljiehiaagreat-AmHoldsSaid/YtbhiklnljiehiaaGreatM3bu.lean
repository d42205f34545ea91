/- law37: AmHolds: done walked. -/
import Derived.Test.YtbhiklnljiehiaaGreatM3bt
set_option maxHeartbeats 4000000
set_option maxRecDepth 100000
namespace Go.Proofs.YtbhiklnljiehiaaGreat
open RowKit Shelf Tryz
attribute [local go_sem] Oper.semAt_some
def wZ (a b:En):Bool:=decide (a.out=b.iA.length)&&(decide (b.out=a.iA.length)&&(decide (a.s.done=a.iA.length)&&decide (b.s.done=b.iA.length)))
section
variable {w0 W:World} {g ga gb G J K M:Nat} {c:Cf} {a b:En} {now:Int}
theorem Tv (h:vO w0 false g ga gb c a b M now W) (P:tZ c a b G J K):
 Calls prog 13 #[.pointer (some g)] W (fun e W'=>e= .returned (.bool (wZ a b))/\Below W W W'):=by
 obtain ⟨na,nb,Fa,Fb,v0,v1,u0,u1,_,_,hM⟩:=h;have hz:=hM.r.oz.size;obtain ⟨vs0,hv0⟩:=hM.r.i0;obtain ⟨vs1,hv1⟩:=hM.r.i1;obtain ⟨A0,c0,rfl,_⟩:=hv0.WV hz;obtain ⟨A1,c1,rfl,_⟩:=hv1.WV hz;have hblk:=hM.blk;unfold zy at hblk;simp only[mq,l7] at hblk;have Bq:∀V,Below W W V->V.cell? g=some (.pointer (some ga))/\V.cell? ⟨g,1,none⟩=some (.pointer (some gb))/\V.cell? ⟨g,4,none⟩=some (.slice A0 a.iA.length c0)/\V.cell? ⟨g,5,none⟩=some (.slice A1 b.iA.length c1)/\V.cell? ⟨g,6,none⟩=some (.int .i64 a.out)/\V.cell? ⟨g,7,none⟩=some (.int .i64 b.out):=fun V hV=>by
  have b0:=hblk.below hV hblk.lt;exact ⟨b0.cell 0,b0.cell 1,b0.cell 4,b0.cell 5,b0.cell 6,b0.cell 7⟩
 have HS:=ah Bq;have DL:=ah (fun (V:World) (hV:Below W W V)=>(jT (hM.r.ea.below hV) P.oa).mono fun e w' hh=>(⟨hh.1,hV.trans (hh.2.mono hV.size)⟩:e= .returned (.int .i64 (a.s.done:Nat))/\Below W W w'));have HCB:=ah (fun (V:World) (hV:Below W W V)=>(jT (hM.r.eb.below hV) P.ob).mono fun e w' hh=>(⟨hh.1,hV.trans (hh.2.mono hV.size)⟩:e= .returned (.int .i64 (b.s.done:Nat))/\Below W W w'));clear hblk Bq hM hv0 hv1 hz P;go_enter func13,ntmps13;have hb0:=bS W W;by_cases d1:a.out=b.iA.length;rotate_left
 .have e1:((a.out:Int)==(b.iA.length:Int))=false:=by rw[beq_eq_false_iff_ne,ne_eq];omega
  have e1n:decide (a.out=b.iA.length)=false:=iP d1;have hd:wZ a b=false:=by simp[wZ,d1]
  rw[hd];obtain ⟨s0,s1,s4,s5,s6,s7⟩:=HS.out _ hb0;clear DL HCB HS;go_upto_region 1 with (fail)
  go_quiet (fail)
  go_wp2_with fail;go_ret;exact ⟨rfl,Below.drewN (bS _ _) _⟩
 have e1:((a.out:Int)==(b.iA.length:Int))=true:=by rw[beq_iff_eq];omega
 have e1n:decide (a.out=b.iA.length)=true:=iK d1;by_cases d2:b.out=a.iA.length;rotate_left
 .have e2:((b.out:Int)==(a.iA.length:Int))=false:=by rw[beq_eq_false_iff_ne,ne_eq];omega
  have e2n:decide (b.out=a.iA.length)=false:=iP d2;have hd:wZ a b=false:=by simp[wZ,d2]
  rw[hd];obtain ⟨s0,s1,s4,s5,s6,s7⟩:=HS.out _ hb0;clear DL HCB HS;go_upto_region 1 with (fail)
  go_quiet (fail)
  go_wp2_with fail;go_ret;exact ⟨rfl,Below.drewN (bS _ _) _⟩
 have e2:((b.out:Int)==(a.iA.length:Int))=true:=by rw[beq_iff_eq];omega
 have e2n:decide (b.out=a.iA.length)=true:=iK d2;have hd:wZ a b=(decide (a.s.done=a.iA.length)&&decide (b.s.done=b.iA.length)):=by simp[wZ,d1,d2]
 rw[hd];by_cases d3:a.s.done=a.iA.length
 .have e3:((a.s.done:Int)==(a.iA.length:Int))=true:=by rw[beq_iff_eq];omega
  have e3n:decide (a.s.done=a.iA.length)=true:=iK d3;have hdd:decide (b.s.done=b.iA.length)=((b.s.done:Int)==(b.iA.length:Int)):=by rw[mr,decide_eq_true_iff,beq_iff_eq];omega
  rw[e3n,Du,hdd];go_upto_region 1 with (fail)
  go_region_held3 (fun w'=>w'.cell? g=some (.pointer (some ga))/\w'.cell? ⟨g,1,none⟩=some (.pointer (some gb))/\w'.cell? ⟨g,4,none⟩=some (.slice A0 a.iA.length c0)/\w'.cell? ⟨g,5,none⟩=some (.slice A1 b.iA.length c1)/\w'.cell? ⟨g,6,none⟩=some (.int .i64 a.out)/\w'.cell? ⟨g,7,none⟩=some (.int .i64 b.out))
   (first|(with_reducible (refine HS.out _ ?_;(repeat first|assumption|refine Below.drew ?_|refine Below.drewN ?_ _);done))|go_keep)
   (first
    |(refine (DL.out _ (by (repeat first|assumption|refine Below.drew ?_|refine Below.drewN ?_ _))).mono ?_;rintro e7 w7 ⟨rfl,qT⟩)
    |(refine (HCB.out _ (by (repeat first|assumption|refine Below.drew ?_|refine Below.drewN ?_ _))).mono ?_;rintro e8 w8 ⟨rfl,OP⟩)
    |fail)
  all_goals
   go_wp2_with fail;go_ret;exact ⟨rfl,OP⟩
 .have e3:((a.s.done:Int)==(a.iA.length:Int))=false:=by rw[beq_eq_false_iff_ne,ne_eq];omega
  have e3n:decide (a.s.done=a.iA.length)=false:=iP d3;rw[e3n,Bool.false_and];go_upto_region 1 with (fail)
  have hb0:=hb0.drew;refine bX (fun w'=>w'.cell? g=some (.pointer (some ga))/\w'.cell? ⟨g,1,none⟩=some (.pointer (some gb))/\w'.cell? ⟨g,4,none⟩=some (.slice A0 a.iA.length c0)/\w'.cell? ⟨g,5,none⟩=some (.slice A1 b.iA.length c1)/\w'.cell? ⟨g,6,none⟩=some (.int .i64 a.out)/\w'.cell? ⟨g,7,none⟩=some (.int .i64 b.out)) [] (by kernel_rfl) ?_;have hHeld:=HS.out _ hb0;refine aW 0 ?_;refine aW 1 ?_;refine aW 2 ?_;refine aW 3 ?_;refine jq [] 4 ?_;refine aW 5 ?_;refine aW 6 ?_;refine aW 7 ?_;refine aW 8 ?_;refine jq [] 9 ?_;refine aW 10 ?_;refine aW 11 ?_;refine aW 12 ?_;refine aW 13 ?_;refine aW 14 ?_;refine aW 15 ?_;refine aW 16 ?_;refine jq [] 17 ?_;refine aW 18 ?_;refine aW 19 ?_;refine aW 20 ?_;refine aW 21 ?_;refine jq [] 22 ?_;refine aW 23 ?_;refine aW 24 ?_;refine aW 25 ?_;refine aW 26 ?_;refine aW 27 ?_;refine aW 28 ?_;refine aW 29 ?_;refine aW 30 ?_;refine jq [] 31 ?_;refine aW 33 ?_;refine aW 34 ?_;refine aW 35 ?_;refine aW 36 ?_;refine jq [] 37 ?_;refine aW 38 ?_;refine aU (i:=32) rfl (by kernel_rfl) (by rfl) (fun K hK=> ?_);go_simp;refine (DL.out _ hb0).mono ?_;rintro e6 w6 ⟨rfl,hb6⟩;refine hK _ _ (HS.out _ hb6) ?_;clear hK K hHeld;have hHeld:=(HS.out _ hb6)
  try simp only[Act.put,gJ]
  refine aW 39 ?_;refine aW 40 ?_;refine aW 41 ?_;refine jU 42 ?_;refine jU 43 ?_;refine jU 44 ?_;refine jU 45 ?_;refine jU 46 ?_;refine jU 47 ?_;refine jU 48 ?_;refine jU 49 ?_;refine jU 50 ?_;refine jU 51 ?_;refine jU 52 ?_;refine jU 53 ?_;refine jU 54 ?_;refine aW 55 ?_;refine aW 56 ?_;refine bW (by kernel_rfl) ?_ _;go_wp2_with fail;go_ret;exact ⟨rfl,hb6⟩
end
end Go.Proofs.YtbhiklnljiehiaaGreat
