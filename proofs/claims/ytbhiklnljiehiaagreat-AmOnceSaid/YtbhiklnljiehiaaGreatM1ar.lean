/- amsend: finish. -/
import Derived.Test.YtbhiklnljiehiaaGreatM1al
import Derived.Test.YtbhiklnljiehiaaGreatM1ap
namespace Go.Proofs.YtbhiklnljiehiaaGreat
section
open Go.RowKit Go.Shelf
attribute [local go_sem] Oper.semAt_some
section
variable {D F:Nat→Prop} {g:Nat} {c:Cf} {st:Sd} {vq vo:Value} {vs os:List Value} {w:World}
theorem KM {i j:Nat} {x:Value} (h:w.cell? ⟨g,i,none⟩=some x) (hne:j≠i) (u:Value):(w.setCell ⟨g,j,none⟩ u).cell? ⟨g,i,none⟩=some x:=by
 rw[←h];simp[World.cell?,World.setCell,Array.getElem?_modify];cases w.heap[g]? with
 |none=>rfl
 |some o=>cases o<;>simp[hne]
def FW (w:World) (D F:Nat→Prop) (g:Nat) (c:Cf) (st:Sd) (bs:List UInt8) (e:Ending) (w':World):Prop:=
 ∃v,e= .returned v∧w'.ownsRow w.heap.size 5 1 v bs.length (bQ bs)∧mg w D F g c st w'
set_option maxRecDepth 100000 in
set_option maxHeartbeats 2000000 in
theorem jT (h:eZ w D F g c st vq vs vo os) (hsum:dx st≤1048576) (hw:st.out.length≤512) (hf:st.first<1024)
 (sn:Nat) (po sg la:Bool) (off:Nat) (s e:Bool) (A:Option Addr) (n cc:Nat) (vl:List Value) (ps:List (List UInt8)) (hps:∀w',Kept (fun k _=>D k) w w'→jd w' w'.heap.size A n cc vl ps)
 (hv:gW sn sg la off ps=true) (hoff:off≤32767) (polls:Bool):
 Calls Tryz.prog 89 #[.pointer (some ⟨g,0,none⟩),.agg (bP sn po sg la off s e A n cc),.bool polls] w (FW w D F g c (bK c st polls).1 (oD sn (bK c st polls).2 sg la off s e ps)):=by
 obtain ⟨PO,hP⟩:∃PO,PO=(polls||st.fH||kH st):=⟨_,rfl⟩
 have hfin:bK c st polls=if PO=true then (vJ st c,true) else (st,false):=by unfold bK;rw[hP]
 rw[hfin];have hid:=fun (o:Obj)=>Eo (h.alloc o) hsum (by omega)
 have R5:=ah hid;have FE:=h.blk.cell 18;simp[eU] at FE;have HH:=ah h;have HP:=ah hP;have zW:=ah hps;have HV:=ah hv;have hgl:=h.blk.lt;clear h hid hP hfin hps hv;unfold bP;go_enter Tryz.func89,Tryz.ntmps89;go_upto_region 1 with (fail)
 go_cut [] (fun wx=>au wx w.heap.size 148 (bP sn PO sg la off s e A n cc)∧eZ wx D F g c st vq vs vo os∧Kept (fun k _=>D k) w wx)
 case first=>
  have hp:=HP.out;cases polls with
  |true=>
   have hp1:PO=true:=by rw[hp];rfl
   clear hp;subst hp1;go_wp2;go_meet;exact ⟨au.new _ _ _,HH.out.alloc _,(Kept.refl _ w).alloc _⟩
  |false=>
   cases ho:st.fH with
   |true=>
    rw[ho] at FE hp;have hp1:PO=true:=by rw[hp];rfl
    clear hp ho;subst hp1;go_wp2;go_meet;exact ⟨au.new _ _ _,HH.out.alloc _,(Kept.refl _ w).alloc _⟩
   |false=>
    rw[ho] at FE hp;have hp1:kH st=PO:=by rw[hp];rfl
    clear hp ho;rw[hp1] at R5;have HI:=ah (R5.out);have HP1:=ah hp1;clear hp1;go_wp2_with (go_at_call 131;refine (HI.out _).mono ?_;rintro e1 w1 ⟨rfl,q,rfl⟩);go_meet;have bb:=((au.new w 148 (bP sn po sg la off s e A n cc)).drewN q).av 1 (.bool PO);have hgs:=HH.out.lt;exact ⟨bb,((HH.out.alloc _).drewN q).stay fun k hk=>gB (fun e=>by
     have:=hgs k hk;have e2:k=w.heap.size:=e;omega),(((Kept.refl _ w).alloc _).iU q).setCell (fun o ho=>by
     have:=lt_of_heap ho;have e2:w.heap.size<w.heap.size:=this;omega) _⟩
 case rest=>
 obtain ⟨bb,hA1,hk1⟩:=hcut;generalize wc=w1 at*;have hbl:=bb.lt;have hbg:w.heap.size≠g:=by omega
 obtain ⟨b0,b1,b2,b3,b4,b5,b6,b7⟩:=bb.eight;cases PO with
 |false=>
  have hsl:=zW.out _ hk1;have henc:=AL sn false sg la off s e A n cc vl ps w1 hsl HV.out hoff;unfold bP at henc;have HE:=ah henc;have HA1:=ah hA1;have wL:=ah hk1;clear hA1 hk1 hsl henc bb HP R5 zW;go_wp2_with fail;refine HE.out.mono ?_;rintro e3 w3 ⟨vb,rfl,hvb,hb3⟩;go_wp2;go_ret;have hz:=wL.out.size;exact ⟨vb,rfl,aU hvb hz,mg.step wL.out (dm.refl _ _) (dm.refl _ _) ((HA1.out.below hb3).o ((Kept.of_below hb3).gH fun k o ho hm=>by have:=lt_of_heap ho;omega))⟩
 |true=>
  have y13:=hA1.blk.cell 13;have Ej:=hA1.blk.cell 14;have ab4:=hA1.blk.cell 18;have e13:=hA1.blk.frozen 13;have e14:=hA1.blk.frozen 14;have e18:=hA1.blk.frozen 18;simp[eU] at y13 Ej ab4;have hA2:=((hA1.oI 13 (.int .i64 0) (st':= {st with dX:=0}) rfl rfl rfl).oI 14 (.int .i64 0) (st':= {st with dX:=0,bytes:=0}) rfl rfl rfl).oI 18 (.bool false) (st':= {st with dX:=0,bytes:=0,fH:=false}) rfl rfl rfl;have hk2:=((hk1.setCell (p:=⟨g,13,none⟩) (fun _ _=>HH.out.gd) (.int .i64 0)).setCell (p:=⟨g,14,none⟩) (fun _ _=>HH.out.gd) (.int .i64 0)).setCell (p:=⟨g,18,none⟩) (fun _ _=>HH.out.gd) (.bool false);have bb2:=((bb.far (p:=⟨g,13,none⟩) hbg (.int .i64 0)).far (p:=⟨g,14,none⟩) hbg (.int .i64 0)).far (p:=⟨g,18,none⟩) hbg (.bool false);have HA2:=ah hA2;have Ak:=ah hk2;have HB2:=ah bb2;clear hA1 hk1 HP R5 hA2 hk2 bb2 bb FE;go_wp2_with fail;generalize (((w1.setCell ⟨g,13,none⟩ (.int .i64 0)).setCell ⟨g,14,none⟩ (.int .i64 0)).setCell ⟨g,18,none⟩ (.bool false))=w2 at*;have z2:=HA2.out.blk.cell 2;have z15:=HA2.out.blk.cell 15;have z16:=HA2.out.blk.cell 16;have z17:=HA2.out.blk.cell 17;have z20:=HA2.out.blk.cell 20;have g15:=HA2.out.blk.frozen 15;have g16:=HA2.out.blk.frozen 16;have g17:=HA2.out.blk.frozen 17;simp[eU] at z2 z15 z16 z17 z20;have hnx:=fun k=>sF (HA2.out.drewN k) hf (by show st.out.length≤_;omega)
  have hnn:bZ {st with dX:=0,bytes:=0,fH:=false}=bZ st:=rfl;rw[hnn] at hnx;have hnb:bZ st≤1023:=by unfold bZ;omega
  have El:=ah hnx;clear hnx hnn b0 b1 b2 b3 b4 b5 b6 b7 y13 Ej ab4 e13 e14 e18
  go_region_held3 (fun w'=>w'.cell? ⟨g,2,none⟩=some (.int .i64 c.timer)∧w'.cell? ⟨g,20,none⟩=some (.int .i64 st.now)) (first|go_keep|(constructor<;>(repeat (first|exact z2|exact z20|refine KM ?_ (by decide) _))))
   ((go_at_call 87;refine (El.out _).mono ?_;rintro e1 w1 ⟨rfl,q,rfl⟩))
  have ab5:bits BinOp.and IntKind.i64 (IntKind.i64.wrap ((bZ st:Nat)+1023:Int)) 1023=(((bZ st+1023)%1024:Nat):Int):=by
   rw[IntWalk.i64_in _ (by omega),vU];omega
  simp only[ab5];generalize hpp:(bZ st+1023)%1024=pp at*;have X7:=ah hpp;generalize hxx:IntKind.i64.wrap (st.now+c.timer)=xx at*;have VJ:=ah hxx;have hA3:=(((HA2.out.drewN (1+q)).oI 15 (.int .i64 (pp:Nat)) (st':= {st with dX:=0,bytes:=0,fH:=false,polled:=pp}) rfl rfl rfl).oI 16 (.bool true) (st':= {st with dX:=0,bytes:=0,fH:=false,polled:=pp,wait:=true}) rfl rfl rfl).oI 17 (.int .i64 xx) (st':= {st with dX:=0,bytes:=0,fH:=false,polled:=pp,wait:=true,iA:=xx}) rfl rfl rfl;have hk3:=(((Ak.out.iU (1+q)).setCell (p:=⟨g,15,none⟩) (fun _ _=>HH.out.gd) (.int .i64 (pp:Nat))).setCell (p:=⟨g,16,none⟩) (fun _ _=>HH.out.gd) (.bool true)).setCell (p:=⟨g,17,none⟩) (fun _ _=>HH.out.gd) (.int .i64 xx);have bb3:=(((HB2.out.drewN (1+q)).far (p:=⟨g,15,none⟩) hbg (.int .i64 (pp:Nat))).far (p:=⟨g,16,none⟩) hbg (.bool true)).far (p:=⟨g,17,none⟩) hbg (.int .i64 xx);clear ab5 hpp hxx z2 z15 z16 z17 z20 g15 g16 g17;generalize ((((w2.drewN (1+q)).setCell ⟨g,15,none⟩ (.int .i64 (pp:Nat))).setCell ⟨g,16,none⟩ (.bool true)).setCell ⟨g,17,none⟩ (.int .i64 xx))=w3 at*;obtain ⟨b0,b1,b2,b3,b4,b5,b6,b7⟩:=bb3.eight;have hsl:=zW.out _ hk3;have henc:=AL sn true sg la off s e A n cc vl ps w3 hsl HV.out hoff;unfold bP at henc;have HE:=ah henc;have yh:=ah hA3;have nJ:=ah hk3;clear hA3 hk3 hsl henc bb3 zW;go_wp2_with fail;refine HE.out.mono ?_;rintro e3 w4 ⟨vb,rfl,hvb,hb3⟩;go_wp2;go_ret;have hz:=nJ.out.size
  have hfn:vJ st c= {st with dX:=0,bytes:=0,fH:=false,polled:=pp,wait:=true,iA:=xx}:=by unfold vJ;rw[X7.out,VJ.out]
  rw[hfn];exact ⟨vb,rfl,aU hvb hz,mg.step nJ.out (dm.refl _ _) (dm.refl _ _) ((yh.out.below hb3).o ((Kept.of_below hb3).gH fun k o ho hm=>by have:=lt_of_heap ho;omega))⟩
end
end
section
theorem iZ (p:List UInt8) (ps:List (List UInt8)):aj (p::ps)=p.length+aj ps:=by simp[aj]
def lM:List (List UInt8)→Nat→Nat→List (List UInt8)
 | [],_,_=> []
 |p::ps,x,y=>if x<min p.length y then (p.take y).drop x::lM ps (x-p.length) (y-p.length) else lM ps (x-p.length) (y-p.length)
def rT:List (List UInt8)→Bool→Nat→Bool
 | [],_,_=>false
 |p::ps,s,x=>(decide (x=0)&&s)||(decide (p.length≤x)&&rT ps true (x-p.length))
def IR:List (List UInt8)→Bool→Nat→Bool
 | [],_,_=>false
 |p::ps,e,y=>(decide (y=p.length)&&(decide (0<ps.length)||e))||(decide (p.length≤y)&&IR ps e (y-p.length))
theorem Ey:∀(ps:List (List UInt8)) (x:Nat),lM ps x 0= []
 | [],_=>rfl
 |p::ps,x=>by simp[lM,Ey ps]
theorem wM:∀(ps:List (List UInt8)) (x y:Nat),(lM ps x y).flatten=(ps.flatten.take y).drop x
 | [],_,_=>by simp[lM]
 |p::ps,x,y=>by
  have ih:=wM ps (x-p.length) (y-p.length);rw[List.flatten_cons,List.take_append,List.drop_append,List.length_take];simp only[lM];by_cases hx:x<min p.length y
  ·rw[if_pos hx,List.flatten_cons,ih]
   congr 1
   by_cases hy:p.length≤y
   ·rw[show x-min y p.length=x-p.length by omega]
   ·rw[show y-p.length=0 by omega];simp
  ·rw[if_neg hx,ih,List.drop_of_length_le (i:=x) (l:=p.take y) (by simp;omega)];by_cases hy:p.length≤y
   ·rw[show x-min y p.length=x-p.length by omega];simp
   ·rw[show y-p.length=0 by omega];simp
theorem BV (ps:List (List UInt8)) (x y:Nat) (h:y≤aj ps):aj (lM ps x y)=y-x:=by
 rw[←iR,wM,List.length_drop,List.length_take,iR];omega
theorem BZ:∀(ps:List (List UInt8)) (x y:Nat),∀q∈lM ps x y,1≤q.length
 | [],_,_,q,hq=>by simp[lM] at hq
 |p::ps,x,y,q,hq=>by
  simp only[lM] at hq;by_cases hx:x<min p.length y
  ·rw[if_pos hx,List.mem_cons] at hq;rcases hq with rfl|hq
   ·simp;omega
   ·exact BZ ps _ _ q hq
  ·rw[if_neg hx] at hq;exact BZ ps _ _ q hq
theorem rU:∀(ps:List (List UInt8)) (x y:Nat),(lM ps x y).length≤ps.length
 | [],_,_=>by simp[lM]
 |p::ps,x,y=>by
  have:=rU ps (x-p.length) (y-p.length);simp only[lM];split
  ·simp;omega
  ·simp;omega
theorem Ca:∀(ps:List (List UInt8)) (x y:Nat),(∀i,i+1<ps.length→(ps[i]?.getD []).length≤2047)→∀i,i+1<(lM ps x y).length→((lM ps x y)[i]?.getD []).length≤2047
 | [],_,_,_,i,hi=>by simp[lM] at hi
 |p::ps,x,y,h,i,hi=>by
  have hr:∀i,i+1<ps.length→(ps[i]?.getD []).length≤2047:=fun i hi=>by
   have:=h (i+1) (by simp;omega);simpa using this
  have ih:=Ca ps (x-p.length) (y-p.length) hr;have hl:=rU ps (x-p.length) (y-p.length);simp only[lM] at hi ⊢;by_cases hx:x<min p.length y
  ·rw[if_pos hx] at hi ⊢;cases i with
   |zero=>
    have:=h 0 (by simp at hi ⊢;omega);simp at this ⊢;omega
   |succ i=>
    have:=ih i (by simp at hi;omega);simpa using this
  ·rw[if_neg hx] at hi ⊢;exact ih i hi
theorem L6 (ps:List (List UInt8)) (x y:Nat) (h:x<y) (hy:y≤aj ps):1≤(lM ps x y).length:=by
 have:=BV ps x y hy;rcases Nat.eq_zero_or_pos (lM ps x y).length with h0|h0
 ·rw[List.length_eq_zero_iff] at h0;rw[h0] at this;simp[aj] at this;omega
 ·exact h0
theorem KN (ps:List (List UInt8)) (x y:Nat) (hv:ol ps) (h:x<y) (hy:y≤aj ps):ol (lM ps x y):=
 ⟨L6 ps x y h hy,Nat.le_trans (rU ps x y) hv.hi,BZ ps x y,Ca ps x y hv.short,by rw[BV ps x y hy];have:=hv.sum;omega⟩
theorem Np:∀(ps:List (List UInt8)) (e:Bool),(∀p∈ps,1≤p.length)→IR ps e 0=false
 | [],_,_=>rfl
 |p::ps,e,hp=>by
  have hp1:=hp p (by simp);simp only[IR];rw[decide_eq_false (p:=0=p.length) (by omega),decide_eq_false (p:=p.length≤0) (by omega)];rfl
theorem FX (p:List UInt8) (ps:List (List UInt8)) (off fr till k:Nat):l8 (p::ps) off fr till (k+1)=l8 ps (off+p.length) fr till k:=by
 unfold l8;simp only[List.take_succ_cons,iZ,Nat.add_assoc]
theorem FY (p:List UInt8) (ps:List (List UInt8)) (off fr till k:Nat):qf (p::ps) off fr till (k+1)=qf ps (off+p.length) fr till k:=by
 unfold qf;simp only[List.take_succ_cons,iZ,Nat.add_assoc,List.getElem?_cons_succ]
theorem tY (p:List UInt8) (ps:List (List UInt8)) (off fr till:Nat):∀k,aP (p::ps) off fr till (k+1)=(if l8 (p::ps) off fr till 0 then [qf (p::ps) off fr till 0] else [])++aP ps (off+p.length) fr till k
 |0=>by
  simp only[aP];split<;>simp
 |k+1=>by
  have ih:=tY p ps off fr till k;rw[aP,ih,FX,FY]
  conv=>rhs;rw[aP]
  split<;>split<;>simp
theorem lu:∀(ps:List (List UInt8)) (off fr till:Nat),aP ps off fr till ps.length=lM ps (fr-off) (till-off)
 | [],_,_,_=>rfl
 |p::ps,off,fr,till=>by
  have ih:=lu ps (off+p.length) fr till;rw[List.length_cons,tY,ih,lM,show fr-(off+p.length)=fr-off-p.length by omega,show till-(off+p.length)=till-off-p.length by omega];have hh:l8 (p::ps) off fr till 0=decide (fr-off<min p.length (till-off)):=by
   unfold l8;simp only[List.take_zero,List.take_succ_cons,iZ,zY];rw[Bool.eq_iff_iff];simp only[decide_eq_true_eq];omega
  rw[hh];by_cases hx:fr-off<min p.length (till-off)
  ·rw[if_pos (by simpa using hx),if_pos hx,List.singleton_append]
   congr 1
   unfold qf;simp only[List.take_zero,List.take_succ_cons,iZ,zY,List.getElem?_cons_zero,Option.getD_some,Nat.add_zero];rw[List.take_drop,show max off fr-off=fr-off by omega]
   congr 1
   by_cases h1:p.length≤till-off
   ·rw[List.take_of_length_le (by omega),List.take_of_length_le h1]
   ·congr 1;omega
  ·rw[if_neg (by simpa using hx),if_neg hx,List.nil_append]
theorem rV (p:List UInt8) (ps:List (List UInt8)) (s:Bool) (off fr:Nat):∀k,aZ (p::ps) s off fr (k+1)=((decide (off=fr)&&s)||aZ ps true (off+p.length) fr k)
 |0=>by simp[aZ,aj]
 |k+1=>by
  rw[aZ,rV p ps s off fr k]
  conv=>rhs;rw[aZ]
  simp only[List.take_succ_cons,iZ,Nat.add_assoc,Bool.or_assoc,Nat.zero_lt_succ,decide_true,Bool.true_or,Bool.or_true,Bool.and_true]
theorem pJ:∀(ps:List (List UInt8)) (s:Bool) (off fr:Nat),aZ ps s off fr ps.length=(decide (off≤fr)&&rT ps s (fr-off))
 | [],_,_,_=>by simp[aZ,rT]
 |p::ps,s,off,fr=>by
  rw[List.length_cons,rV,pJ ps true (off+p.length) fr];simp only[rT];rw[show fr-(off+p.length)=fr-off-p.length by omega];by_cases h:off≤fr
  ·rw[show decide (off≤fr)=true by simpa using h,show decide (off=fr)=decide (fr-off=0) by rw[Bool.eq_iff_iff];simp;omega,show decide (off+p.length≤fr)=decide (p.length≤fr-off) by rw[Bool.eq_iff_iff];simp;omega];simp
  ·rw[show decide (off≤fr)=false by simpa using h,show decide (off=fr)=false by simp;omega,show decide (off+p.length≤fr)=false by simp;omega];simp
theorem wN (p:List UInt8) (ps:List (List UInt8)) (e:Bool) (off till:Nat):∀k,cu (p::ps) e off till (k+1)=((decide (off+p.length=till)&&(decide (0<ps.length)||e))||cu ps e (off+p.length) till k)
 |0=>by simp[cu,aj]
 |k+1=>by
  rw[cu,wN p ps e off till k]
  conv=>rhs;rw[cu]
  simp only[List.take_succ_cons,iZ,Nat.add_assoc,Bool.or_assoc,List.length_cons];rw[show decide (k+(1+1)<ps.length+1)=decide (k+1<ps.length) by rw[Bool.eq_iff_iff];simp only[decide_eq_true_eq];omega]
theorem wO:∀(ps:List (List UInt8)) (e:Bool) (off till:Nat),cu ps e off till ps.length=(decide (off≤till)&&IR ps e (till-off))
 | [],_,_,_=>by simp[cu,IR]
 |p::ps,e,off,till=>by
  rw[List.length_cons,wN,wO ps e (off+p.length) till];simp only[IR];rw[show till-(off+p.length)=till-off-p.length by omega];by_cases h:off≤till
  ·rw[show decide (off≤till)=true by simpa using h,show decide (off+p.length=till)=decide (till-off=p.length) by rw[Bool.eq_iff_iff];simp;omega,show decide (off+p.length≤till)=decide (p.length≤till-off) by rw[Bool.eq_iff_iff];simp;omega];simp
  ·rw[show decide (off≤till)=false by simpa using h,show decide (off+p.length=till)=false by simp;omega,show decide (off+p.length≤till)=false by simp;omega];simp
theorem FZ (ps:List (List UInt8)) (off a d:Nat) (h0:off≤a) (h4:d≤off+aj ps):aj (aP ps off a d ps.length)=d-a:=by
 rw[lu,BV _ _ _ (by omega)];omega
theorem sK (ps:List (List UInt8)) (off a d:Nat) (hv:ol ps) (h0:off≤a) (h1:a<d) (h4:d≤off+aj ps):ol (aP ps off a d ps.length):=by
 rw[lu];exact KN ps _ _ hv (by omega) (by omega)
end
section
open Go.RowKit
attribute [local go_sem] Oper.semAt_some
def pE (l:List (Nat × Nat)):List Value:=l.flatMap (fun r=> [.int .i64 (r.1:Nat),.int .i64 (r.2:Nat)])
theorem uI (l:List (Nat × Nat)):(pE l).length=l.length*2:=by
 induction l with
 |nil=>rfl
 |cons r t ih=>
  simp only[pE,List.flatMap_cons,List.length_append,List.length_cons,List.length_nil] at ih ⊢;omega
theorem Il (r:Nat × Nat) (t:List (Nat × Nat)):pE (r::t)= .int .i64 (r.1:Nat):: .int .i64 (r.2:Nat)::pE t:=by simp[pE]
theorem zK (a b:List (Nat × Nat)):pE (a++b)=pE a++pE b:=by simp[pE]
theorem zL:∀(l:List (Nat × Nat)) (j:Nat) (r:Nat × Nat),l[j]? =some r→(pE l)[j*2]? =some (.int .i64 (r.1:Nat))∧(pE l)[j*2+1]? =some (.int .i64 (r.2:Nat))
 | [],j,r,h=>by simp at h
 |x::t,0,r,h=>by
  simp at h;subst h;rw[Il];exact ⟨rfl,rfl⟩
 |x::t,j+1,r,h=>by
  have ih:=zL t j r (by simpa using h);rw[Il];rw[show (j+1)*2=j*2+1+1 by omega];exact ih
theorem TK (l:List (Nat × Nat)):∀u∈pE l,u.oneCell'=true:=by
 intro u hu;simp only[pE,List.mem_flatMap,List.mem_cons,List.not_mem_nil,or_false] at hu;obtain ⟨r,_,rfl|rfl⟩:=hu<;>rfl
section
variable {w w':World} {A:Option Addr} {n c:Nat} {l:List (Nat × Nat)}
theorem eH.cells {ad:Addr} (h:eH w (some ad) n c l):∀j u,(pE l)[j]? =some u→w.cell? (ad.add j)=some u:=by
 intro j u hu;have hj:=(List.getElem?_eq_some_iff.1 hu).1;rw[uI] at hj;have hn:=h.len;obtain ⟨zR,e,hb,hc⟩:=h.at_ (by omega);cases e;obtain ⟨r,hr⟩:∃r,l[j/2]? =some r:=⟨_,List.getElem?_eq_getElem (by omega)⟩
 obtain ⟨g1,g2⟩:=zL l _ r hr;obtain ⟨k1,k2⟩:=hc _ r hr;rcases Nat.mod_two_eq_zero_or_one j with hm|hm
 ·have e2:j/2*2=j:=by omega
  rw[e2] at g1 k1;rw[g1] at hu;cases hu;exact k1
 ·have e2:j/2*2+1=j:=by omega
  rw[e2] at g2 k2;rw[g2] at hu;cases hu;exact k2
theorem eH.dH {base:Nat} {v:Value} (h:w.ownsRow base 39 2 v l.length (pE l)):
 ∃A c,v= .slice A l.length c∧eH w A l.length c l∧(∀ad,A=some ad→base≤ad.block∧ad.block<w.heap.size):=by
 rcases h.2 with ⟨rfl,hn⟩|⟨g,cap,cur,rfl,hb,hg,hnc,hcm,hcs,ht⟩
 ·have:=List.eq_nil_of_length_eq_zero hn;subst this;exact ⟨none,0,rfl,eH.nil w,fun ad e=>by cases e⟩
 ·refine ⟨_,_,rfl,⟨rfl,hnc,by unfold maxLen at hcm;omega,fun _=>⟨_,rfl,lt_of_heap hg,fun j r hr=> ?_⟩⟩,fun ad e=>by cases e;exact ⟨hb,lt_of_heap hg⟩⟩;have hc:=fun j u (hu:(pE l)[j]? =some u)=>h.cells (g:=g) rfl j u hu
  obtain ⟨g1,g2⟩:=zL l j r hr;exact ⟨hc _ _ g1,hc _ _ g2⟩
theorem eH.tail {ad:Addr} {r:Nat × Nat} (h:eH w (some ad) (n+1) c (r::l)):eH w (some (if c=1 then ad else ad.add 2)) n (c-1) l:=by
 have hl:=h.len;have hc:=h.cap;have hm:=h.mx;simp at hl;refine ⟨hl,by omega,by omega,fun hn=> ?_⟩;obtain ⟨zR,e,hb,hcl⟩:=h.at_ (by omega);cases e;rw[if_neg (by omega)];refine ⟨_,rfl,by rw[block_add];exact hb,fun j q hq=> ?_⟩;have:=hcl (j+1) q (by simpa using hq);rw[add_add,add_add,show 2+j*2=(j+1)*2 by omega,show 2+(j*2+1)=(j+1)*2+1 by omega];exact this
theorem eH.below (h:eH w A n c l) (hb:Below w.heap.size w w'):eH w' A n c l:=by
 rcases Nat.eq_zero_or_pos n with h0|h0
 ·exact ⟨h.len,h.cap,h.mx,fun hn=>by omega⟩
 ·obtain ⟨ad,e,hlt,hc⟩:=h.at_ h0;exact h.stay fun zR e'=>hb.block _ (by rw[e] at e';cases e';exact hlt)
theorem eH.alloc (h:eH w A n c l) (o:Obj):eH (w.alloc o) A n c l:=h.below ((Below.refl _ w).alloc (aN) o)
end
theorem TL:(Tryz.prog.info? 39).map (fun i=>(i.zero,i.size,i.bytes))=some (some (.agg #[.int .i64 0,.int .i64 0]),2,16):=by kernel_rfl
theorem rJ:∃i,Tryz.prog.info? 39=some i∧i.zero=some (.agg #[.int .i64 0,.int .i64 0])∧i.size=2∧i.bytes=16:=by
 have h:=TL;cases hi:Tryz.prog.info? 39 with
 |none=>rw[hi] at h;cases h
 |some i=>
  rw[hi] at h;simp only[Option.map_some,Option.some.injEq,Prod.mk.injEq] at h;exact ⟨i,rfl,h.1,h.2.1,h.2.2⟩
theorem uJ:Tryz.prog.underlying 150=some (.slice 39):=by kernel_rfl
section
variable {P:Program} (w:World)
theorem Dp (base:Nat) (t ty e:TypeId) (i:TypeInfo) (z:Value) (bytes:Nat) (ht:P.underlying t=some (.slice e)) (hi:P.info? e=some i) (hz:i.zero=some z)
 (hsize:i.size=2) (hby:i.bytes=bytes) (hzs:z.cells.size=2)
 (v:Value) (n:Nat) (xs:List Value) (hown:w.ownsRow base e 2 v n xs)
 (A:Option Addr) (m c:Nat) (l:List (Nat × Nat)) (hr:eH w A m c l)
 (h63:n+m≤maxLen) (hbytes:(n+m)*bytes≤140737488355328) (hbase:base≤w.heap.size):
 ∃v' w',(Builtin.append_ #[t,t] ty #[v,.slice A m c]).run P w= .ok v' w'∧w'.ownsRow base e 2 v' (n+m) (xs++pE l)∧w.grownBy w' v.ownBlock∧
  (v'.ownBlock=v.ownBlock∨v'.ownBlock=some w.heap.size):=by
 rcases A with _|ad
 ·have hm:m=0:=by
   rcases Nat.eq_zero_or_pos m with h0|h0
   ·exact h0
   ·obtain ⟨ad,h,_⟩:=hr.at_ h0;cases h
  subst hm;have hn:l= []:=List.eq_nil_of_length_eq_zero hr.len;subst hn;exact ⟨v,w,jX w base t ty e i 2 ht hi v n xs hown c,by simpa[pE] using hown,World.grownBy.refl w _,.inl rfl⟩
 ·obtain ⟨v',w',hrun,h2,h3,_,h5⟩:=run_append_own_at (P:=P) w base t ty e i z 2 bytes ht hi hz hsize hby hzs (by omega) v n xs hown ad m c (pE l) (by rw[uI,hr.len]) hr.cells (TK l) h63 hbytes hbase;exact ⟨v',w',hrun,h2,h3,h5⟩
theorem FF {o:Oper} {a:Act} {K:Act→World→Prop} {Q:Exit→Act→World→Prop} (s x:Operand) (t:TypeId)
 (ho:o.op= .call {callee:= .builtin .append,args:= #[s,x],argTypes:= #[t,t]})
 (base:Nat) (e:TypeId) (i:TypeInfo) (z:Value) (bytes:Nat) (ht:P.underlying t=some (.slice e)) (hi:P.info? e=some i) (hz:i.zero=some z)
 (hsize:i.size=2) (hby:i.bytes=bytes) (hzs:z.cells.size=2)
 (v:Value) (n:Nat) (xs:List Value) (hs:a.eval s=v) (hown:w.ownsRow base e 2 v n xs)
 (A:Option Addr) (m c:Nat) (l:List (Nat × Nat)) (hx:a.eval x= .slice A m c) (hr:eH w A m c l)
 (h63:n+m≤maxLen) (hbytes:(n+m)*bytes≤140737488355328) (hbase:base≤w.heap.size)
 (h:∀v' w',w'.ownsRow base e 2 v' (n+m) (xs++pE l)→w.grownBy w' v.ownBlock→(v'.ownBlock=v.ownBlock∨v'.ownBlock=some w.heap.size)→K (a.put o.dst v') w'):o.wp P a w K Q:=by
 obtain ⟨v',w',hrun,h2,h3,h4⟩:=Dp (P:=P) w base t o.type e i z bytes ht hi hz hsize hby hzs v n xs hown A m c l hr h63 hbytes hbase;unfold Oper.wp execOp;simp only[ho,resolve,invoke,builtin,Sem.run_bind,Sem.run_pure,Result.andThen_ok,List.map_toArray,List.map_cons,List.map_nil,hs,hx,hrun];exact h v' w' h2 h3 h4
theorem gY {ops:Array Oper} {rest:List Oper} {o:Oper} {a:Act} {Q:Exit→Act→World→Prop} (hgd:o.guard=none) (s x:Operand) (t:TypeId)
 (ho:o.op= .call {callee:= .builtin .append,args:= #[s,x],argTypes:= #[t,t]})
 (base:Nat) (e:TypeId) (i:TypeInfo) (z:Value) (bytes:Nat) (ht:P.underlying t=some (.slice e)) (hi:P.info? e=some i) (hz:i.zero=some z)
 (hsize:i.size=2) (hby:i.bytes=bytes) (hzs:z.cells.size=2)
 (v:Value) (n:Nat) (xs:List Value) (hs:a.eval s=v) (hown:w.ownsRow base e 2 v n xs)
 (A:Option Addr) (m c:Nat) (l:List (Nat × Nat)) (hx:a.eval x= .slice A m c) (hr:eH w A m c l)
 (h63:n+m≤maxLen) (hbytes:(n+m)*bytes≤140737488355328) (hbase:base≤w.heap.size)
 (h:∀v' w',w'.ownsRow base e 2 v' (n+m) (xs++pE l)→w.grownBy w' v.ownBlock→(v'.ownBlock=v.ownBlock∨v'.ownBlock=some w.heap.size)→wpList P ops Q rest (a.put o.dst v') w'):wpList P ops Q (o::rest) a w:=
 wpList_plain hgd fun _ hK=>FF w s x t ho base e i z bytes ht hi hz hsize hby hzs v n xs hs hown A m c l hx hr h63 hbytes hbase fun v' w' h2 h3 h4=>hK _ _ (h v' w' h2 h3 h4)
end
def zM (w:World) (l:List (Nat × Nat)) (e:Ending) (w':World):Prop:=
 ∃v,e= .returned v∧w'.ownsRow w.heap.size 39 2 v l.length (pE l)∧Below w.heap.size w w'
set_option maxRecDepth 3000 in
set_option maxHeartbeats 400000 in
theorem yQ (A:Option Addr) (n c:Nat) (l:List (Nat × Nat)) (w:World) (h:eH w A n c l) (hsm:n≤1000000):
 Calls Tryz.prog 106 #[.slice A n c] w (zM w l):=by
 have hnil:=fun (W:World)=>Lib.run_eql_slice_nil (P:=Tryz.prog) W 150 39 A n c 0 0 uJ
 obtain ⟨i0,hi,hz0,hz1,hz2⟩:=rJ;have hl:=h.len;subst hl;have hs1:=h.alloc (.cells #[] 39);rcases A with _|ad
 ·have hl:l= []:=by
   rcases Nat.eq_zero_or_pos l.length with h0|h0
   ·exact List.eq_nil_of_length_eq_zero h0
   ·obtain ⟨_,e,_⟩:=h.at_ h0;cases e
  subst hl;simp only[List.length_nil] at hnil ⊢;clear hs1 h;go_enter Tryz.func106,Tryz.ntmps106;go_wp2;go_ret;exact ⟨_,rfl,World.ownsRow_nil _ _ _ _,Below.refl _ _⟩
 ·go_enter Tryz.func106,Tryz.ntmps106;go_wp2_with (at_builtin;refine gY _ rfl _ _ 150 rfl w.heap.size 39 i0 (.agg #[.int .i64 0,.int .i64 0]) 16 uJ hi hz0 hz1 hz2 rfl (.slice (some ⟨w.heap.size,0,none⟩) 0 0) 0 [] rfl ?c0 (some ad) l.length c l rfl hs1 ?c3 ?c4 ?c5 ?_)
  case c0=>exact World.ownsRow_lit w #[] 0 (aN) (by unfold maxLen;omega) rfl
  case c3=>unfold maxLen;omega
  case c4=>omega
  case c5=>simp
  intro v' w1 hown' hgrow _;go_wp2;go_ret;exact ⟨_,rfl,by simpa using hown',((Below.refl _ w).alloc (aN) _).grown hgrow (by simp) (by simp[Value.ownBlock])⟩
set_option maxRecDepth 3000 in
set_option maxHeartbeats 400000 in
theorem Ku (n:Nat) (w:World) (hsm:n≤1000000):Calls Tryz.prog 169 #[.slice none 0 0,.int .i64 n] w (zM w []):=by
 obtain ⟨i0,hi,hz0,hz1,hz2⟩:=rJ;rcases Nat.eq_zero_or_pos n with rfl|hpos
 ·go_enter Tryz.func169,Tryz.ntmps169;go_wp2;go_ret;exact ⟨_,rfl,World.ownsRow_nil _ _ _ _,Below.refl _ _⟩
 ·have hr:=Lib.run_append_nil_zeros (P:=Tryz.prog) w 150 3 150 39 i0 (.agg #[.int .i64 0,.int .i64 0]) .i64 .i64 uJ (by kernel_rfl) hi hz0 n hpos (by omega) (by omega) (by rw[hz2];omega);have hcap:=grownCap_ge w n 0 39;have hmx:=grownCap_le_maxLen w n 0 39 (by unfold maxLen;omega);unfold maxLen at hmx;generalize grownCap w n 0 39=cap at*;have HR:=ah hr;clear hr;go_enter Tryz.func169,Tryz.ntmps169;go_wp2_with (at_builtin;refine Lib.wpList_append_run _ rfl _ _ 150 3 rfl (.slice none 0 0) (.int .i64 n) rfl rfl _ _ HR.out ?_);go_ret;refine ⟨_,rfl,⟨rfl,.inr ⟨w.heap.size,cap,_,rfl,aN,heap_alloc_new w _,Nat.zero_le _,by unfold maxLen;omega,?_,rfl⟩⟩,((Below.refl _ w).alloc (aN) _).drew⟩;rw[Array.size_append,size_zeroCells,size_zeroCells];simp;omega
structure Ep (w:World) (b:Nat) (A1 A2:Option Addr) (n1 c1 n2 c2:Nat) (l1 l2:List (Nat × Nat)):Prop where
 b:au w b 150 #[.slice A1 n1 c1,.slice A2 n2 c2]
 s1:eH w A1 n1 c1 l1
 s2:eH w A2 n2 c2 l2
theorem Ep.below {w w':World} {b:Nat} {A1 A2:Option Addr} {n1 c1 n2 c2:Nat} {l1 l2:List (Nat × Nat)} (h:Ep w b A1 A2 n1 c1 n2 c2 l1 l2) (hb:Below w.heap.size w w'):Ep w' b A1 A2 n1 c1 n2 c2 l1 l2:=
 ⟨h.b.below hb h.b.lt,h.s1.below hb,h.s2.below hb⟩
def Er (l1 l2:List (Nat × Nat)):Nat→List (Nat × Nat)
 |0=> []
 |1=>l1
 |_=>l1++l2
set_option maxRecDepth 3000 in
set_option maxHeartbeats 1000000 in
theorem wE (b:Nat) (A1 A2:Option Addr) (n1 c1 n2 c2:Nat) (l1 l2:List (Nat × Nat)) (w:World) (h:Ep w b A1 A2 n1 c1 n2 c2 l1 l2) (h1:n1≤100000) (h2:n2≤100000):
 Calls Tryz.prog 129 #[.slice (some ⟨b,0,none⟩) 2 2] w (zM w (l1++l2)):=by
 obtain ⟨i0,hi,hz0,hz1,hz2⟩:=rJ;have q1:=h.s1.cap;have q2:=h.s1.mx;have q3:=h.s2.cap;have q4:=h.s2.mx;have hl1:=ah h.s1.len;have hl2:=ah h.s2.len;have e1:=h.b.cell 0;have e2:=h.b.cell 1;simp at e1 e2;have HH:=ah h;clear h;go_enter Tryz.func129,Tryz.ntmps129;go_wp2
 go_loop [3,11] (fun t i=>(i= .int .i64 0∧t= .int .i64 0)∨(i= .int .i64 1∧t= .int .i64 (n1:Nat))∨(i= .int .i64 2∧t= .int .i64 (n1+n2:Nat))) (fun _ i=>2-(intOf i).toNat)
 case atStart=>exact .inl ⟨rfl,rfl⟩
 case round=>
  rcases hrel with ⟨rfl,rfl⟩|⟨rfl,rfl⟩|⟨rfl,rfl⟩
  ·go_wp2
   go_round
   case rel=>exact .inr (.inl ⟨rfl,rfl⟩)
   case measure=>simp[intOf]
  ·go_wp2
   go_round
   case rel=>exact .inr (.inr ⟨rfl,by go_num⟩)
   case measure=>simp[intOf]
  ·have hgr:=Ku (n1+n2) w (by omega);have XD:=ah hgr;clear hgr;go_wp2_with fail;refine XD.out.mono ?_;rintro e w1 ⟨v1,rfl,hv1,hb1⟩;go_wp2
   go_loopw [6,27] (fun v i wr=>∃k:Nat,k≤2∧i= .int .i64 k∧wr.ownsRow w.heap.size 39 2 v (Er l1 l2 k).length (pE (Er l1 l2 k))∧Below w.heap.size w wr) (fun _ i _=>2-(intOf i).toNat)
   case atStart=>exact ⟨0,by decide,rfl,hv1,hb1⟩
   case round=>
    clear hv1 hb1;obtain ⟨k,hk,rfl,hown,hbw⟩:=hrel;have hT:=HH.out.below hbw;have TM:=hl1.out;have abe:=hl2.out;have f1:=hT.b.cell 0;have f2:=hT.b.cell 1;simp at f1 f2;obtain rfl|rfl|rfl:k=0∨k=1∨k=2:=by omega
    ·go_wp2_with (at_builtin;refine gY _ rfl _ _ 150 rfl w.heap.size 39 i0 (.agg #[.int .i64 0,.int .i64 0]) 16 uJ hi hz0 hz1 hz2 rfl _ 0 [] rfl hown A1 n1 c1 l1 rfl hT.s1 ?c3 ?c4 ?c5 ?_)
     case c3=>unfold maxLen;omega
     case c4=>omega
     case c5=>exact hbw.size
     intro v' w2 hown' hgrow _;go_wp2
     go_roundw
     case rel=>exact ⟨1,by decide,by go_num,by simpa[Er,TM] using hown',hbw.grown hgrow hbw.size (fun j hj=>(hown.lt j hj).1)⟩
     case measure=>simp[intOf]
    ·rw[show Er l1 l2 1=l1 from rfl,TM] at hown;go_wp2_with (at_builtin;refine gY _ rfl _ _ 150 rfl w.heap.size 39 i0 (.agg #[.int .i64 0,.int .i64 0]) 16 uJ hi hz0 hz1 hz2 rfl _ n1 (pE l1) rfl hown A2 n2 c2 l2 rfl hT.s2 ?c3 ?c4 ?c5 ?_)
     case c3=>unfold maxLen;omega
     case c4=>omega
     case c5=>exact hbw.size
     intro v' w2 hown' hgrow _;go_wp2
     go_roundw
     case rel=>exact ⟨2,by decide,by go_num,by rw[show Er l1 l2 2=l1++l2 from rfl,List.length_append,TM,abe,zK];exact hown',hbw.grown hgrow hbw.size (fun j hj=>(hown.lt j hj).1)⟩
     case measure=>simp[intOf]
    ·rw[show Er l1 l2 2=l1++l2 from rfl] at hown;clear TM abe;go_wp2;go_ret;exact ⟨_,rfl,hown,hbw⟩
end
section
open Go.RowKit
section
variable {D F D' F':Nat→Prop} {g:Nat} {c:Cf} {st st':Sd} {vq vo:Value} {vs os:List Value} {w w' w'':World}
theorem Fh.sets {A:Option Addr} (h:Fh F D A) (hf:∀k,F k→F' k) (hn:∀k,F k→¬D k→¬D' k):Fh F' D' A:=fun ad e=>⟨hf _ (h ad e).1,hn _ (h ad e).1 (h ad e).2⟩
theorem iH.sets {p:Nat} {x:Ou} {Ap Ar:Option Addr} {cp cr:Nat} {vp:List Value} (h:iH w D F p x Ap cp vp Ar cr) (hd:∀k,D k→D' k) (hf:∀k,F k→F' k) (hn:∀k,F k→¬D k→¬D' k):iH w D' F' p x Ap cp vp Ar cr:=
 ⟨h.blk,hd p h.d,hf p h.f,h.ps,h.pf.sets hf hn,fun i v hv=>(h.pe i v hv).sets hf hn,h.rs,h.rf.sets hf hn⟩
theorem au.off {a b:Nat} {t u:TypeId} {cs ds:Array Value} (h:au w a t cs) (h':au w b u ds) (hne:t≠u):a≠b:=fun e=>by
 subst e;unfold au at h h';rw[h] at h';injection h' with h3
 injection h3 with _ h4
 exact hne h4
theorem eZ.gne (h:eZ w D F g c st vq vs vo os):aX vq≠some g∧aX vo≠some g:=⟨h.qr.xM h.blk (by decide),h.uz.xM h.blk (by decide)⟩
theorem eZ.qne (h:eZ w D F g c st vq vs vo os) (k:Nat) (hq:aX vq=some k):aX vo≠some k:=fun ho=>by
 obtain ⟨c1,h1,_⟩:=h.qr.row hq;obtain ⟨c2,h2,_⟩:=h.uz.row ho;rw[h1] at h2;injection h2 with h3
 injection h3 with _ h4
 exact absurd h4 (by decide)
theorem eZ.oes (h:eZ w D F g c st vq vs vo os) (hk:∀k,F k→k≠g→aX vq≠some k→aX vo≠some k→w'.heap[k]? =w.heap[k]?):
 ∀(i:Nat) (x:Ou),st.out[i]? =some x→∃p Ap cp vp Ar cr,os[i]? =some (.pointer (some ⟨p,0,none⟩))∧iH w' D F p x Ap cp vp Ar cr:=fun i x hx=>by
 obtain ⟨p,Ap,cp,vp,Ar,cr,e,ho⟩:=h.oe i x hx;have nd:∀{A:Option Addr},Fh F D A→∀ad,A=some ad→w'.heap[ad.block]? =w.heap[ad.block]? :=fun hi ad ea=>hk _ (hi ad ea).1 (fun e2=>(hi ad ea).2 (by rw[e2];exact h.gd)) (fun e2=>(hi ad ea).2 (h.qd _ e2)) (fun e2=>(hi ad ea).2 (h.od _ e2))
 have hp:w'.heap[p]? =w.heap[p]? :=hk p ho.f (fun e2=>ho.blk.off h.blk (by decide) e2) (h.qr.xM ho.blk (by decide)) (h.uz.xM ho.blk (by decide));exact ⟨p,Ap,cp,vp,Ar,cr,e,hp.trans ho.blk,ho.d,ho.f,ho.ps.stay (nd ho.pf) (fun i v ad hv ea=>nd (ho.pe i v hv) ad ea),ho.pf,ho.pe,ho.rs.stay (nd ho.rf),ho.rf⟩
theorem eZ.qes (h:eZ w D F g c st vq vs vo os) (hk:∀k,F k→k≠g→aX vq≠some k→aX vo≠some k→w'.heap[k]? =w.heap[k]?):
 ∀(i:Nat) (p:List UInt8),st.queue[i]? =some p→∃A cc,vs[i]? =some (.slice A p.length cc)∧Sl w' w'.heap.size A p.length cc (bQ p)∧Fh F D A:=fun i p hp=>by
 obtain ⟨A,cc,e,hs,hf⟩:=h.qe i p hp;exact ⟨A,cc,e,hs.stay (fun ad ea=>hk _ (hf ad ea).1 (fun e2=>(hf ad ea).2 (by rw[e2];exact h.gd)) (fun e2=>(hf ad ea).2 (h.qd _ e2)) (fun e2=>(hf ad ea).2 (h.od _ e2))),hf⟩
theorem eZ.iK (h:eZ w D F g c st vq vs vo os) {w1 w5:World} {x:List UInt8} {A1 A5:Option Addr} {c1 c5:Nat} (hn:1≤x.length) (hb1:Below w.heap.size w w1) (hx:w1.ownsRow w.heap.size 5 1 (.slice A1 x.length c1) x.length (bQ x))
 (hq:eT w5 0 31 (.slice A5 (st.queue.length+1) c5) (st.queue.length+1) (vs++ [.slice A1 x.length c1])) (hg:(w1.alloc (.cells #[.slice A1 x.length c1] 31)).grownBy w5 (aX vq))
 (Xw:∀k,aX (.slice A5 (st.queue.length+1) c5)=some k→aX vq=some k∨(w1.alloc (.cells #[.slice A1 x.length c1] 31)).heap.size≤k):
 mg w D F g c (eG st x) (w5.setCell ⟨g,7,none⟩ (.slice A5 (st.queue.length+1) c5)):=by
 have hz1:=hb1.size;have ZD:(w1.alloc (.cells #[.slice A1 x.length c1] 31)).heap.size=w1.heap.size+1:=World.size_alloc _ _;have hgl:=h.blk.lt;have hgA:=(h.blk.below hb1 hgl).alloc (.cells #[.slice A1 x.length c1] 31);have hg5:=hgA.grown hg (fun e=>h.gne.1 e.symm);have SI:=hg5.av 7 (.slice A5 (st.queue.length+1) c5);obtain ⟨A0,c0,ev,hsl,hA1⟩:=aS hx;cases ev;have LJ:=hg.size;have hh:∀k,k<w.heap.size→k≠g→aX vq≠some k→(w5.setCell ⟨g,7,none⟩ (.slice A5 (st.queue.length+1) c5)).heap[k]? =w.heap[k]? :=fun k hk hkg hkq=>by
  rw[gB (show k≠(⟨g,7,none⟩:Addr).block from hkg),hg.block k (by omega) (fun e=>hkq e.symm),Below.heap_alloc _ _ k (by omega),hb1.block k hk]
 have PX:∀k,F k→k≠g→aX vq≠some k→aX vo≠some k→(w5.setCell ⟨g,7,none⟩ (.slice A5 (st.queue.length+1) c5)).heap[k]? =w.heap[k]? :=fun k hf h1 h2 _=>hh k (h.lt k hf) h1 h2
 obtain ⟨ad,rfl,e2⟩:=hA1 hn;have e4:ad.block<w1.heap.size:=by
  obtain ⟨am4,e3,e4,_⟩:=hsl.at_ hn;cases e3;exact e4
 have LF:(w5.setCell ⟨g,7,none⟩ (.slice A5 (st.queue.length+1) c5)).heap.size=w5.heap.size:=by simp[World.setCell]
 have Zv:=hq.store hg5 (by decide) (i:=7) (.slice A5 (st.queue.length+1) c5);have Iv:∀k,aX (.slice A5 (st.queue.length+1) c5)=some k→D k∨w1.heap.size+1≤k:=fun k hk=>by
  rcases Xw k hk with e|e
  ·exact .inl (h.qd k e)
  ·exact .inr (by omega)
 have hnn:∀k,F k→¬D k→¬(D k∨aX (.slice A5 (st.queue.length+1) c5)=some k):=fun k hf hd e=>by
  rcases e with e|e
  ·exact hd e
  ·rcases Iv k e with e|e
   ·exact hd e
   ·have:=h.lt k hf;omega
 refine ⟨fun k=>D k∨aX (.slice A5 (st.queue.length+1) c5)=some k,fun k=>F k∨aX (.slice A5 (st.queue.length+1) c5)=some k∨k=ad.block,.slice A5 (st.queue.length+1) c5,vs++ [.slice (some ad) x.length c1],vo,os,⟨?_,.inl h.gd,?_,?_,?_,fun k hk=> .inr hk,?_,?_,fun k hk=> .inl (h.od k hk),?_,h.inj⟩,?_,?_,?_⟩
 ·exact SI
 ·rintro k (hk|hk)
  ·exact .inl (h.sub k hk)
  ·exact .inr (.inl hk)
 ·rintro k (hk|hk|rfl)
  ·have:=h.lt k hk;omega
  ·exact (Zv.lt hk).2
  ·omega
 ·have hl:(eG st x).queue.length=st.queue.length+1:=by simp[eG]
  rw[hl];exact Zv
 ·intro i p hi;have hi':(st.queue++ [x])[i]? =some p:=hi;rcases Nat.lt_or_ge i st.queue.length with hlt|hge
  ·rw[List.getElem?_append_left hlt] at hi';obtain ⟨A,cc,k1,k2,k3⟩:=h.qes PX i p hi';exact ⟨A,cc,by rw[List.getElem?_append_left (by rw[h.qr.1];exact hlt)];exact k1,k2,k3.sets (fun k hk=> .inl hk) hnn⟩
  ·have hi0:i=st.queue.length:=by
    have:=(List.getElem?_eq_some_iff.1 hi').1;simp at this;omega
   subst hi0;simp at hi';subst hi';refine ⟨some ad,c1,by rw[←h.qr.1];simp,hsl.stay fun zR e=> ?_,fun zR e=> ?_⟩
   ·cases e;rw[gB (show ad.block≠(⟨g,7,none⟩:Addr).block by show ad.block≠g;omega),hg.block _ (by omega) (fun e=>by
     have:=(h.qr.lt e.symm).2;omega),Below.heap_alloc _ _ _ (by omega)]
   ·cases e;refine ⟨.inr (.inr rfl),?_⟩;rintro (hd|hd)
    ·have:=h.lt _ (h.sub _ hd);omega
    ·rcases Xw _ hd with e|e
     ·have:=(h.qr.lt e).2;omega
     ·omega
 ·exact h.uz.keep fun k hk=>hh k (h.uz.lt hk).2 (fun e=>h.gne.2 (by rw[←e];exact hk)) (fun e=>h.qne k e hk)
 ·intro i y hi;obtain ⟨p,Ap,cp,vp,Ar,cr,k1,k2⟩:=h.oes PX i y hi;exact ⟨p,Ap,cp,vp,Ar,cr,k1,k2.sets (fun k hk=> .inl hk) (fun k hk=> .inl hk) hnn⟩
 ·rintro k (hk|hk)
  ·exact .inl hk
  ·rcases Iv k hk with e|e
   ·exact .inl e
   ·exact .inr (by omega)
 ·rintro k (hk|hk|rfl)
  ·exact .inl hk
  ·rcases Iv k hk with e|e
   ·exact .inl (h.sub k e)
   ·exact .inr (by omega)
  ·exact .inr e2
 ·have hk1:Kept (fun k _=>D k) w w1:=(Kept.of_below hb1).gH fun k o ho hm=>by have:=lt_of_heap ho;omega
  exact ((hk1.alloc _).grown hg (fun k hk o ho=>h.qd k hk)).setCell (p:=⟨g,7,none⟩) (fun _ _=>h.gd) _
end
end
end Go.Proofs.YtbhiklnljiehiaaGreat
