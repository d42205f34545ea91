/- amsend: finish. -/
import Derived.Test.YtbhiklnljiehiaaGreatM3am
import Derived.Test.YtbhiklnljiehiaaGreatM3ap
set_option maxHeartbeats 2000000
set_option maxRecDepth 100000
namespace Go.Proofs.YtbhiklnljiehiaaGreat
open RowKit Shelf Tryz
attribute [local go_sem] Oper.semAt_some
section
variable {D F:Nat->Prop} {g:Nat} {c:Cf} {st:Sd} {vq vo:Value} {vs os:List Value} {w:World}
theorem O9 {i j:Nat} {x:Value} (h:w.cell? ⟨g,i,none⟩=some x) (hne:j≠i) (u:Value):(w.setCell ⟨g,j,none⟩ u).cell? ⟨g,i,none⟩=some x:=by
 rw[<-h];simp[World.cell?,World.setCell,Array.getElem?_modify];cases w.heap[g]? with
 |none=>rfl
 |some o=>cases o<;>simp[hne]
def Ky (w:World) (D F:Nat->Prop) (g:Nat) (c:Cf) (st:Sd) (bs:List UInt8) (e:Ending) (w':World):Prop:=
 ∃v,e= .returned v/\w'.ownsRow w 5 1 v bs.length (dz bs)/\pK w D F g c st w'
theorem lS (h:gu w D F g c st vq vs vo os) (hsum:aH st<=1048576) (hw:st.out.length<=512) (hf:st.first<1024)
 (sn:Nat) (po sg la:Bool) (off:Nat) (s e:Bool) (A:Option Addr) (n cc:Nat) (vl:List Value) (ps:List (List UInt8)) (hps:∀w',Kept (fun k _=>D k) w w'->jW w' w'.heap.size A n cc vl ps)
 (hv:iZ sn sg la off ps=true) (hoff:off<=32767) (polls:Bool):
 Calls prog 89 #[.pointer (some g),.agg (dh sn po sg la off s e A n cc),.bool polls] w (Ky w D F g c (aG c st polls).1 (qO sn (aG c st polls).2 sg la off s e ps)):=by
 obtain ⟨PO,hP⟩:∃PO,PO=(polls||st.dI||dH st):=⟨_,rfl⟩
 have hfin:aG c st polls=if PO=true then (zR st c,true) else (st,false):=by unfold aG;rw[hP]
 rw[hfin];have hid:=fun (o:Obj)=>Jd (h.alloc o) hsum (by omega)
 have W9:=ah hid;have Ku:=h.blk.cell 18;simp[fV] at Ku;have HH:=ah h;have HP:=ah hP;have Qy:=ah hps;have HV:=ah hv;have hgl:=h.blk.lt;clear h hid hP hfin hps hv;unfold dh;go_enter func89,ntmps89;go_upto_region 1 with (fail)
 go_cut [] (fun wx=>av wx w 148 (dh sn PO sg la off s e A n cc)/\gu wx D F g c st vq vs vo os/\Kept (fun k _=>D k) w wx)
 case first=>
  have hp:=HP.out;cases polls with
  |true=>
   have hp1:PO=true:=by rw[hp];rfl
   clear hp;subst hp1;go_wp2;go_meet;exact ⟨av.new _ _ _,HH.out.alloc _,(Kept.refl _ w).alloc _⟩
  |false=>
   cases ho:st.dI with
   |true=>
    rw[ho] at Ku hp;have hp1:PO=true:=by rw[hp];rfl
    clear hp ho;subst hp1;go_wp2;go_meet;exact ⟨av.new _ _ _,HH.out.alloc _,(Kept.refl _ w).alloc _⟩
   |false=>
    rw[ho] at Ku hp;have hp1:dH st=PO:=by rw[hp];rfl
    clear hp ho;rw[hp1] at W9;have HI:=ah (W9.out);have HP1:=ah hp1;clear hp1;go_wp2_with (go_at_call 131;refine (HI.out _).mono ?_;rintro e1 w1 ⟨rfl,q,rfl⟩);go_meet;have bb:=((av.new w 148 (dh sn po sg la off s e A n cc)).drewN q).ay 1 (.bool PO);have hgs:=HH.out.lt;exact ⟨bb,((HH.out.alloc _).drewN q).stay fun k hk=>iE (fun e=>by
     have:=hgs k hk;have e2:k=w:=e;omega),(((Kept.refl _ w).alloc _).jI q).setCell (fun o ho=>by
     have:=lt_of_heap ho;have e2:w.heap.size<w.heap.size:=this;omega) _⟩
 case rest=>
 obtain ⟨bb,hA1,hk1⟩:=hcut;generalize wc=w1 at*;have hbl:=bb.lt;have hbg:w.heap.size≠g:=by omega
 obtain ⟨b0,b1,b2,b3,b4,b5,b6,b7⟩:=bb.eight;cases PO with
 |false=>
  have hsl:=Qy.out _ hk1;have henc:=EV sn false sg la off s e A n cc vl ps w1 hsl HV.out hoff;unfold dh at henc;have HE:=ah henc;have HA1:=ah hA1;have yN:=ah hk1;clear hA1 hk1 hsl henc bb HP W9 Qy;go_wp2_with fail;refine HE.out.mono ?_;rintro e3 w3 ⟨vb,rfl,hvb,hb3⟩;go_wp2;go_ret;have hz:=yN.out.size;exact ⟨vb,rfl,bF hvb hz,pK.step yN.out (dU.refl _ _) (dU.refl _ _) ((HA1.out.below hb3).o ((Kept.of_below hb3).iI fun k o ho hm=>by have:=lt_of_heap ho;omega))⟩
 |true=>
  have y13:=hA1.blk.cell 13;have Jg:=hA1.blk.cell 14;have afJ:=hA1.blk.cell 18;have e13:=hA1.blk.frozen 13;have e14:=hA1.blk.frozen 14;have e18:=hA1.blk.frozen 18;simp[fV] at y13 Jg afJ;have hA2:=((hA1.rX 13 (.int .i64 0) (st':= {st with fG:=0}) rfl rfl rfl).rX 14 (.int .i64 0) (st':= {st with fG:=0,bytes:=0}) rfl rfl rfl).rX 18 (.bool false) (st':= {st with fG:=0,bytes:=0,dI:=false}) rfl rfl rfl;have hk2:=((hk1.setCell (p:=⟨g,13,none⟩) (fun _ _=>HH.out.gd) (.int .i64 0)).setCell (p:=⟨g,14,none⟩) (fun _ _=>HH.out.gd) (.int .i64 0)).setCell (p:=⟨g,18,none⟩) (fun _ _=>HH.out.gd) (.bool false);have bb2:=((bb.far (p:=⟨g,13,none⟩) hbg (.int .i64 0)).far (p:=⟨g,14,none⟩) hbg (.int .i64 0)).far (p:=⟨g,18,none⟩) hbg (.bool false);have HA2:=ah hA2;have EQ:=ah hk2;have HB2:=ah bb2;clear hA1 hk1 HP W9 hA2 hk2 bb2 bb Ku;go_wp2_with fail;generalize (((w1.setCell ⟨g,13,none⟩ (.int .i64 0)).setCell ⟨g,14,none⟩ (.int .i64 0)).setCell ⟨g,18,none⟩ (.bool false))=w2 at*;have z2:=HA2.out.blk.cell 2;have z15:=HA2.out.blk.cell 15;have z16:=HA2.out.blk.cell 16;have z17:=HA2.out.blk.cell 17;have z20:=HA2.out.blk.cell 20;have g15:=HA2.out.blk.frozen 15;have g16:=HA2.out.blk.frozen 16;have g17:=HA2.out.blk.frozen 17;simp[fV] at z2 z15 z16 z17 z20;have hnx:=fun k=>xw (HA2.out.drewN k) hf (by show st.out.length<=_;omega)
  have hnn:dM {st with fG:=0,bytes:=0,dI:=false}=dM st:=rfl;rw[hnn] at hnx;have hnb:dM st<=1023:=by unfold dM;omega
  have Jh:=ah hnx;clear hnx hnn b0 b1 b2 b3 b4 b5 b6 b7 y13 Jg afJ e13 e14 e18
  go_region_held3 (fun w'=>w'.cell? ⟨g,2,none⟩=some (.int .i64 c.timer)/\w'.cell? ⟨g,20,none⟩=some (.int .i64 st.now)) (first|go_keep|(constructor<;>(repeat (first|exact z2|exact z20|refine O9 ?_ (by decide) _))))
   ((go_at_call 87;refine (Jh.out _).mono ?_;rintro e1 w1 ⟨rfl,q,rfl⟩))
  have afK:bits BinOp.and IntKind.i64 (IntKind.i64.wrap ((dM st:Nat)+1023:Int)) 1023=(((dM st+1023)%1024:Nat):Int):=by
   rw[iG _ (by omega),Au];omega
  simp only[afK];generalize hpp:(dM st+1023)%1024=pp at*;have Yi:=ah hpp;generalize hxx:IntKind.i64.wrap (st.now+c.timer)=xx at*;have HXX:=ah hxx;have hA3:=(((HA2.out.drewN (1+q)).rX 15 (.int .i64 (pp:Nat)) (st':= {st with fG:=0,bytes:=0,dI:=false,polled:=pp}) rfl rfl rfl).rX 16 (.bool true) (st':= {st with fG:=0,bytes:=0,dI:=false,polled:=pp,wait:=true}) rfl rfl rfl).rX 17 xx (st':= {st with fG:=0,bytes:=0,dI:=false,polled:=pp,wait:=true,bu:=xx}) rfl rfl rfl;have hk3:=(((EQ.out.jI (1+q)).setCell (p:=⟨g,15,none⟩) (fun _ _=>HH.out.gd) (.int .i64 (pp:Nat))).setCell (p:=⟨g,16,none⟩) (fun _ _=>HH.out.gd) (.bool true)).setCell (p:=⟨g,17,none⟩) (fun _ _=>HH.out.gd) xx;have bb3:=(((HB2.out.drewN (1+q)).far (p:=⟨g,15,none⟩) hbg (.int .i64 (pp:Nat))).far (p:=⟨g,16,none⟩) hbg (.bool true)).far (p:=⟨g,17,none⟩) hbg xx;clear afK hpp hxx z2 z15 z16 z17 z20 g15 g16 g17;generalize ((((w2.drewN (1+q)).setCell ⟨g,15,none⟩ (.int .i64 (pp:Nat))).setCell ⟨g,16,none⟩ (.bool true)).setCell ⟨g,17,none⟩ xx)=w3 at*;obtain ⟨b0,b1,b2,b3,b4,b5,b6,b7⟩:=bb3.eight;have hsl:=Qy.out _ hk3;have henc:=EV sn true sg la off s e A n cc vl ps w3 hsl HV.out hoff;unfold dh at henc;have HE:=ah henc;have Cg:=ah hA3;have qR:=ah hk3;clear hA3 hk3 hsl henc bb3 Qy;go_wp2_with fail;refine HE.out.mono ?_;rintro e3 w4 ⟨vb,rfl,hvb,hb3⟩;go_wp2;go_ret;have hz:=qR.out.size
  have hfn:zR st c= {st with fG:=0,bytes:=0,dI:=false,polled:=pp,wait:=true,bu:=xx}:=by unfold zR;rw[Yi.out,HXX.out]
  rw[hfn];exact ⟨vb,rfl,bF hvb hz,pK.step qR.out (dU.refl _ _) (dU.refl _ _) ((Cg.out.below hb3).o ((Kept.of_below hb3).iI fun k o ho hm=>by have:=lt_of_heap ho;omega))⟩
end
def sV (l:List (Nat × Nat)):List Value:=l.flatMap (fun r=> [.int .i64 (r.1:Nat),.int .i64 (r.2:Nat)])
theorem yO (l:List (Nat × Nat)):(sV l).length=l.length*2:=by
 induction l with
 |nil=>rfl
 |cons r t ih=>
  simp only[sV,List.flatMap_cons,l8,jh,gQ] at ih ⊢;omega
theorem MK (r:Nat × Nat) (t:List (Nat × Nat)):sV (r::t)= .int .i64 (r.1:Nat):: .int .i64 (r.2:Nat)::sV t:=by simp[sV]
theorem D4 (a b:List (Nat × Nat)):sV (a++b)=sV a++sV b:=by simp[sV]
theorem D5:∀(l:List (Nat × Nat)) (j:Nat) (r:Nat × Nat),l[j]? =some r->(sV l)[j*2]? =some (.int .i64 (r.1:Nat))/\(sV l)[j*2+1]? =some (.int .i64 (r.2:Nat))
 | [],j,r,h=>by simp at h
 |x::t,0,r,h=>by
  simp at h;subst h;rw[MK];exact ⟨rfl,rfl⟩
 |x::t,j+1,r,h=>by
  have ih:=D5 t j r (by simpa using h);rw[MK];rw[show (j+1)*2=j*2+1+1 by omega];exact ih
theorem Yk (l:List (Nat × Nat)):∀u∈sV l,u.oneCell'=true:=by
 intro u hu;simp only[sV,List.mem_flatMap,nE,Dp,uQ] at hu;obtain ⟨r,_,rfl|rfl⟩:=hu<;>rfl
section
variable {w w':World} {A:Option Addr} {n c:Nat} {l:List (Nat × Nat)}
theorem fQ.cells {ad:Addr} (h:fQ w (some ad) n c l):∀j u,(sV l)[j]? =some u->w.cell? (ad.add j)=some u:=by
 intro j u hu;have hj:=(pN.1 hu).1;rw[yO] at hj;have hn:=h.len;obtain ⟨Ew,e,hb,hc⟩:=h.at_ (by omega);cases e;obtain ⟨r,hr⟩:∃r,l[j/2]? =some r:=⟨_,gX (by omega)⟩
 obtain ⟨g1,g2⟩:=D5 l _ r hr;obtain ⟨k1,k2⟩:=hc _ r hr;rcases Nat.mod_two_eq_zero_or_one j with hm|hm
 ·have e2:j/2*2=j:=by omega
  rw[e2] at g1 k1;rw[g1] at hu;cases hu;exact k1
 ·have e2:j/2*2+1=j:=by omega
  rw[e2] at g2 k2;rw[g2] at hu;cases hu;exact k2
theorem fQ.eu {base:Nat} {v:Value} (h:w.ownsRow base 39 2 v l.length (sV l)):
 ∃A c,v= .slice A l.length c/\fQ w A l.length c l/\(∀ad,A=some ad->base<=ad.block/\ad.block<w.heap.size):=by
 rcases h.2 with ⟨rfl,hn⟩|⟨g,cap,cur,rfl,hb,hg,hnc,hcm,hcs,ht⟩
 ·have:=nV hn;subst this;exact ⟨none,0,rfl,fQ.nil w,fun ad e=>by cases e⟩
 ·refine ⟨_,_,rfl,⟨rfl,hnc,by unfold maxLen at hcm;omega,fun _=>⟨_,rfl,lt_of_heap hg,fun j r hr=> ?_⟩⟩,fun ad e=>by cases e;exact ⟨hb,lt_of_heap hg⟩⟩;have hc:=fun j u (hu:(sV l)[j]? =some u)=>h.cells (g:=g) rfl j u hu
  obtain ⟨g1,g2⟩:=D5 l j r hr;exact ⟨hc _ _ g1,hc _ _ g2⟩
theorem fQ.tail {ad:Addr} {r:Nat × Nat} (h:fQ w (some ad) (n+1) c (r::l)):fQ w (some (if c=1 then ad else ad.add 2)) n (c-1) l:=by
 have hl:=h.len;have hc:=h.cap;have hm:=h.mx;simp at hl;refine ⟨hl,by omega,by omega,fun hn=> ?_⟩;obtain ⟨Ew,e,hb,hcl⟩:=h.at_ (by omega);cases e;rw[aP (by omega)];refine ⟨_,rfl,by rw[block_add];exact hb,fun j q hq=> ?_⟩;have:=hcl (j+1) q (by simpa using hq);rw[add_add,add_add,show 2+j*2=(j+1)*2 by omega,show 2+(j*2+1)=(j+1)*2+1 by omega];exact this
theorem fQ.below (h:fQ w A n c l) (hb:Below w w w'):fQ w' A n c l:=by
 rcases oV n with h0|h0
 ·exact ⟨h.len,h.cap,h.mx,fun hn=>by omega⟩
 ·obtain ⟨ad,e,hlt,hc⟩:=h.at_ h0;exact h.stay fun Ew e'=>hb.block _ (by rw[e] at e';cases e';exact hlt)
theorem fQ.alloc (h:fQ w A n c l) (o:Obj):fQ (w.alloc o) A n c l:=h.below ((bS _ w).alloc (aL) o)
end
theorem Yl:(prog.info? 39).map (fun i=>(i.zero,i.size,i.bytes))=some (some (.agg #[.int .i64 0,.int .i64 0]),2,16):=by kernel_rfl
theorem wH:∃i,prog.info? 39=some i/\i.zero=some (.agg #[.int .i64 0,.int .i64 0])/\i.size=2/\i.bytes=16:=by
 have h:=Yl;cases hi:prog.info? 39 with
 |none=>rw[hi] at h;cases h
 |some i=>
  rw[hi] at h;simp only[G8,sj,BA] at h;exact ⟨i,rfl,h.1,h.2.1,h.2.2⟩
theorem yP:prog.underlying 150=some (.slice 39):=by kernel_rfl
section
variable {P:Program} (w:World)
theorem Ia (base:Nat) (t ty e:TypeId) (i:TypeInfo) (z:Value) (bytes:Nat) (ht:P.underlying t=some (.slice e)) (hi:P.info? e=some i) (hz:i.zero=some z)
 (hsize:i.size=2) (hby:i.bytes=bytes) (hzs:z.cells.size=2)
 (v:Value) (n:Nat) (xs:List Value) (hown:w.ownsRow base e 2 v n xs)
 (A:Option Addr) (m c:Nat) (l:List (Nat × Nat)) (hr:fQ w A m c l)
 (h63:n+m<=maxLen) (hbytes:(n+m)*bytes<=140737488355328) (hbase:base<=w):
 ∃v' w',(Builtin.append_ #[t,t] ty #[v,.slice A m c]).run P w= .ok v' w'/\w'.ownsRow base e 2 v' (n+m) (xs++sV l)/\w.grownBy w' v.ownBlock/\
  (v'.ownBlock=v.ownBlock\/v'.ownBlock=some w.heap.size):=by
 rcases A with _|ad
 ·have hm:m=0:=by
   rcases oV m with h0|h0
   ·exact h0
   ·obtain ⟨ad,h,_⟩:=hr.at_ h0;cases h
  subst hm;have hn:l= []:=nV hr.len;subst hn;exact ⟨v,w,mD w base t ty e i 2 ht hi v n xs hown c,by simpa[sV] using hown,World.grownBy.refl w _,.inl rfl⟩
 ·obtain ⟨v',w',hrun,h2,h3,_,h5⟩:=run_append_own_at (P:=P) w base t ty e i z 2 bytes ht hi hz hsize hby hzs (by omega) v n xs hown ad m c (sV l) (by rw[yO,hr.len]) hr.cells (Yk l) h63 hbytes hbase;exact ⟨v',w',hrun,h2,h3,h5⟩
theorem Kz {o:Oper} {a:Act} {K:Act->World->Prop} {Q:Exit->Act->World->Prop} (s x:Operand) (t:TypeId)
 (ho:o.op= .call {callee:= .builtin .append,args:= #[s,x],argTypes:= #[t,t]})
 (base:Nat) (e:TypeId) (i:TypeInfo) (z:Value) (bytes:Nat) (ht:P.underlying t=some (.slice e)) (hi:P.info? e=some i) (hz:i.zero=some z)
 (hsize:i.size=2) (hby:i.bytes=bytes) (hzs:z.cells.size=2)
 (v:Value) (n:Nat) (xs:List Value) (hs:a.eval s=v) (hown:w.ownsRow base e 2 v n xs)
 (A:Option Addr) (m c:Nat) (l:List (Nat × Nat)) (hx:a.eval x= .slice A m c) (hr:fQ w A m c l)
 (h63:n+m<=maxLen) (hbytes:(n+m)*bytes<=140737488355328) (hbase:base<=w)
 (h:∀v' w',w'.ownsRow base e 2 v' (n+m) (xs++sV l)->w.grownBy w' v.ownBlock->(v'.ownBlock=v.ownBlock\/v'.ownBlock=some w.heap.size)->K (a.put o.dst v') w'):o.wp P a w K Q:=by
 obtain ⟨v',w',hrun,h2,h3,h4⟩:=Ia (P:=P) w base t o.type e i z bytes ht hi hz hsize hby hzs v n xs hown A m c l hr h63 hbytes hbase;unfold Oper.wp execOp;simp only[ho,resolve,invoke,builtin,Sem.run_bind,Sem.run_pure,Result.andThen_ok,List.map_toArray,vw,xS,hs,hx,hrun];exact h v' w' h2 h3 h4
theorem ja {ops:Array Oper} {rest:List Oper} {o:Oper} {a:Act} {Q:Exit->Act->World->Prop} (hgd:o.guard=none) (s x:Operand) (t:TypeId)
 (ho:o.op= .call {callee:= .builtin .append,args:= #[s,x],argTypes:= #[t,t]})
 (base:Nat) (e:TypeId) (i:TypeInfo) (z:Value) (bytes:Nat) (ht:P.underlying t=some (.slice e)) (hi:P.info? e=some i) (hz:i.zero=some z)
 (hsize:i.size=2) (hby:i.bytes=bytes) (hzs:z.cells.size=2)
 (v:Value) (n:Nat) (xs:List Value) (hs:a.eval s=v) (hown:w.ownsRow base e 2 v n xs)
 (A:Option Addr) (m c:Nat) (l:List (Nat × Nat)) (hx:a.eval x= .slice A m c) (hr:fQ w A m c l)
 (h63:n+m<=maxLen) (hbytes:(n+m)*bytes<=140737488355328) (hbase:base<=w)
 (h:∀v' w',w'.ownsRow base e 2 v' (n+m) (xs++sV l)->w.grownBy w' v.ownBlock->(v'.ownBlock=v.ownBlock\/v'.ownBlock=some w.heap.size)->wpList P ops Q rest (a.put o.dst v') w'):wpList P ops Q (o::rest) a w:=
 wpList_plain hgd fun _ hK=>Kz w s x t ho base e i z bytes ht hi hz hsize hby hzs v n xs hs hown A m c l hx hr h63 hbytes hbase fun v' w' h2 h3 h4=>hK _ _ (h v' w' h2 h3 h4)
end
def D6 (w:World) (l:List (Nat × Nat)) (e:Ending) (w':World):Prop:=
 ∃v,e= .returned v/\w'.ownsRow w 39 2 v l.length (sV l)/\Below w w w'
theorem C5 (A:Option Addr) (n c:Nat) (l:List (Nat × Nat)) (w:World) (h:fQ w A n c l) (hsm:n<=1000000):
 Calls prog 106 #[.slice A n c] w (D6 w l):=by
 have hnil:=fun (W:World)=>Lib.run_eql_slice_nil (P:=prog) W 150 39 A n c 0 0 yP
 obtain ⟨i0,hi,hz0,hz1,hz2⟩:=wH;have hl:=h.len;subst hl;have hs1:=h.alloc (.cells #[] 39);rcases A with _|ad
 ·have hl:l= []:=by
   rcases oV l.length with h0|h0
   ·exact nV h0
   ·obtain ⟨_,e,_⟩:=h.at_ h0;cases e
  subst hl;simp only[gQ] at hnil ⊢;clear hs1 h;go_enter func106,ntmps106;go_wp2;go_ret;exact ⟨_,rfl,jl _ _ _ _,bS _ _⟩
 ·go_enter func106,ntmps106;go_wp2_with (at_builtin;refine ja _ rfl _ _ 150 rfl w 39 i0 (.agg #[.int .i64 0,.int .i64 0]) 16 yP hi hz0 hz1 hz2 rfl (.slice (some ⟨w,0,none⟩) 0 0) 0 [] rfl ?c0 (some ad) l.length c l rfl hs1 ?c3 ?c4 ?c5 ?_)
  case c0=>exact World.ownsRow_lit w #[] 0 (aL) (by unfold maxLen;omega) rfl
  case c3=>unfold maxLen;omega
  case c4=>omega
  case c5=>simp
  intro v' w1 hown' hgrow _;go_wp2;go_ret;exact ⟨_,rfl,by simpa using hown',((bS _ w).alloc (aL) _).grown hgrow (by simp) (by simp[Value.ownBlock])⟩
theorem Pf (n:Nat) (w:World) (hsm:n<=1000000):Calls prog 169 #[.slice none 0 0,n] w (D6 w []):=by
 obtain ⟨i0,hi,hz0,hz1,hz2⟩:=wH;rcases oV n with rfl|hpos
 ·go_enter func169,ntmps169;go_wp2;go_ret;exact ⟨_,rfl,jl _ _ _ _,bS _ _⟩
 ·have hr:=Lib.run_append_nil_zeros (P:=prog) w 150 3 150 39 i0 (.agg #[.int .i64 0,.int .i64 0]) .i64 .i64 yP (by kernel_rfl) hi hz0 n hpos (by omega) (by omega) (by rw[hz2];omega);have hcap:=grownCap_ge w n 0 39;have hmx:=grownCap_le_maxLen w n 0 39 (by unfold maxLen;omega);unfold maxLen at hmx;generalize grownCap w n 0 39=cap at*;have HR:=ah hr;clear hr;go_enter func169,ntmps169;go_wp2_with (at_builtin;refine Lib.wpList_append_run _ rfl _ _ 150 3 rfl (.slice none 0 0) n rfl rfl _ _ HR.out ?_);go_ret;refine ⟨_,rfl,⟨rfl,.inr ⟨w,cap,_,rfl,aL,Et w _,eH _,by unfold maxLen;omega,?_,rfl⟩⟩,((bS _ w).alloc (aL) _).drew⟩;rw[Array.size_append,G9,G9];simp;omega
structure Ji (w:World) (b:Nat) (A1 A2:Option Addr) (n1 c1 n2 c2:Nat) (l1 l2:List (Nat × Nat)):Prop where
 b:av w b 150 #[.slice A1 n1 c1,.slice A2 n2 c2]
 s1:fQ w A1 n1 c1 l1
 s2:fQ w A2 n2 c2 l2
theorem Ji.below {w w':World} {b:Nat} {A1 A2:Option Addr} {n1 c1 n2 c2:Nat} {l1 l2:List (Nat × Nat)} (h:Ji w b A1 A2 n1 c1 n2 c2 l1 l2) (hb:Below w w w'):Ji w' b A1 A2 n1 c1 n2 c2 l1 l2:=
 ⟨h.b.below hb h.b.lt,h.s1.below hb,h.s2.below hb⟩
def Jj (l1 l2:List (Nat × Nat)):Nat->List (Nat × Nat)
 |0=> []
 |1=>l1
 |_=>l1++l2
theorem AO (b:Nat) (A1 A2:Option Addr) (n1 c1 n2 c2:Nat) (l1 l2:List (Nat × Nat)) (w:World) (h:Ji w b A1 A2 n1 c1 n2 c2 l1 l2) (h1:n1<=100000) (h2:n2<=100000):
 Calls prog 129 #[.slice (some ⟨b,0,none⟩) 2 2] w (D6 w (l1++l2)):=by
 obtain ⟨i0,hi,hz0,hz1,hz2⟩:=wH;have q1:=h.s1.cap;have q2:=h.s1.mx;have q3:=h.s2.cap;have q4:=h.s2.mx;have hl1:=ah h.s1.len;have hl2:=ah h.s2.len;have e1:=h.b.cell 0;have e2:=h.b.cell 1;simp at e1 e2;have HH:=ah h;clear h;go_enter func129,ntmps129;go_wp2
 go_loop [3,11] (fun t i=>(i= .int .i64 0/\t= .int .i64 0)\/(i= .int .i64 1/\t= .int .i64 (n1:Nat))\/(i= .int .i64 2/\t= .int .i64 (n1+n2:Nat))) (fun _ i=>2-(intOf i).toNat)
 case atStart=>exact .inl ⟨rfl,rfl⟩
 case round=>
  rcases hrel with ⟨rfl,rfl⟩|⟨rfl,rfl⟩|⟨rfl,rfl⟩
  ·go_wp2
   go_round
   case rel=>exact .inr (.inl ⟨rfl,rfl⟩)
   case measure=>simp[intOf]
  ·go_wp2
   go_round
   case rel=>exact .inr (.inr ⟨rfl,by go_num⟩)
   case measure=>simp[intOf]
  ·have hgr:=Pf (n1+n2) w (by omega);have HGR:=ah hgr;clear hgr;go_wp2_with fail;refine HGR.out.mono ?_;rintro e w1 ⟨v1,rfl,hv1,hb1⟩;go_wp2
   go_loopw [6,27] (fun v i wr=>∃k:Nat,k<=2/\i= .int .i64 k/\wr.ownsRow w 39 2 v (Jj l1 l2 k).length (sV (Jj l1 l2 k))/\Below w w wr) (fun _ i _=>2-(intOf i).toNat)
   case atStart=>exact ⟨0,by decide,rfl,hv1,hb1⟩
   case round=>
    clear hv1 hb1;obtain ⟨k,hk,rfl,hown,hbw⟩:=hrel;have hT:=HH.out.below hbw;have Ym:=hl1.out;have afL:=hl2.out;have f1:=hT.b.cell 0;have f2:=hT.b.cell 1;simp at f1 f2;obtain rfl|rfl|rfl:k=0\/k=1\/k=2:=by omega
    ·go_wp2_with (at_builtin;refine ja _ rfl _ _ 150 rfl w 39 i0 (.agg #[.int .i64 0,.int .i64 0]) 16 yP hi hz0 hz1 hz2 rfl _ 0 [] rfl hown A1 n1 c1 l1 rfl hT.s1 ?c3 ?c4 ?c5 ?_)
     case c3=>unfold maxLen;omega
     case c4=>omega
     case c5=>exact hbw.size
     intro v' w2 hown' hgrow _;go_wp2
     go_roundw
     case rel=>exact ⟨1,by decide,by go_num,by simpa[Jj,Ym] using hown',hbw.grown hgrow hbw.size (fun j hj=>(hown.lt j hj).1)⟩
     case measure=>simp[intOf]
    ·rw[show Jj l1 l2 1=l1 from rfl,Ym] at hown;go_wp2_with (at_builtin;refine ja _ rfl _ _ 150 rfl w 39 i0 (.agg #[.int .i64 0,.int .i64 0]) 16 yP hi hz0 hz1 hz2 rfl _ n1 (sV l1) rfl hown A2 n2 c2 l2 rfl hT.s2 ?c3 ?c4 ?c5 ?_)
     case c3=>unfold maxLen;omega
     case c4=>omega
     case c5=>exact hbw.size
     intro v' w2 hown' hgrow _;go_wp2
     go_roundw
     case rel=>exact ⟨2,by decide,by go_num,by rw[show Jj l1 l2 2=l1++l2 from rfl,l8,Ym,afL,D4];exact hown',hbw.grown hgrow hbw.size (fun j hj=>(hown.lt j hj).1)⟩
     case measure=>simp[intOf]
    ·rw[show Jj l1 l2 2=l1++l2 from rfl] at hown;clear Ym afL;go_wp2;go_ret;exact ⟨_,rfl,hown,hbw⟩
section
variable {D F D' F':Nat->Prop} {g:Nat} {c:Cf} {st st':Sd} {vq vo:Value} {vs os:List Value} {w w' w'':World}
theorem Kt.sets {A:Option Addr} (h:Kt F D A) (hf:∀k,F k->F' k) (hn:∀k,F k->¬D k->¬D' k):Kt F' D' A:=fun ad e=>⟨hf _ (h ad e).1,hn _ (h ad e).1 (h ad e).2⟩
theorem jv.sets {p:Nat} {x:Ou} {Ap Ar:Option Addr} {cp cr:Nat} {vp:List Value} (h:jv w D F p x Ap cp vp Ar cr) (hd:∀k,D k->D' k) (hf:∀k,F k->F' k) (hn:∀k,F k->¬D k->¬D' k):jv w D' F' p x Ap cp vp Ar cr:=
 ⟨h.blk,hd p h.d,hf p h.f,h.ps,h.pf.sets hf hn,fun i v hv=>(h.pe i v hv).sets hf hn,h.rs,h.rf.sets hf hn⟩
theorem av.off {a b:Nat} {t u:TypeId} {cs ds:Array Value} (h:av w a t cs) (h':av w b u ds) (hne:t≠u):a≠b:=fun e=>by
 subst e;unfold av at h h';rw[h] at h';injection h' with h3
 injection h3 with _ h4
 exact hne h4
theorem gu.gne (h:gu w D F g c st vq vs vo os):bM vq≠some g/\bM vo≠some g:=⟨h.qr.Ca h.blk (by decide),h.yL.Ca h.blk (by decide)⟩
theorem gu.qne (h:gu w D F g c st vq vs vo os) (k:Nat) (hq:bM vq=some k):bM vo≠some k:=fun ho=>by
 obtain ⟨c1,h1,_⟩:=h.qr.row hq;obtain ⟨c2,h2,_⟩:=h.yL.row ho;rw[h1] at h2;injection h2 with h3
 injection h3 with _ h4
 exact absurd h4 (by decide)
theorem gu.oes (h:gu w D F g c st vq vs vo os) (hk:∀k,F k->k≠g->bM vq≠some k->bM vo≠some k->w'.heap[k]? =w.heap[k]?):
 ∀(i:Nat) (x:Ou),st.out[i]? =some x->∃p Ap cp vp Ar cr,os[i]? =some (.pointer (some ⟨p,0,none⟩))/\jv w' D F p x Ap cp vp Ar cr:=fun i x hx=>by
 obtain ⟨p,Ap,cp,vp,Ar,cr,e,ho⟩:=h.oe i x hx;have nd:∀{A:Option Addr},Kt F D A->∀ad,A=some ad->w'.heap[ad.block]? =w.heap[ad.block]? :=fun hi ad ea=>hk _ (hi ad ea).1 (fun e2=>(hi ad ea).2 (by rw[e2];exact h.gd)) (fun e2=>(hi ad ea).2 (h.qd _ e2)) (fun e2=>(hi ad ea).2 (h.od _ e2))
 have hp:w'.heap[p]? =w.heap[p]? :=hk p ho.f (fun e2=>ho.blk.off h.blk (by decide) e2) (h.qr.Ca ho.blk (by decide)) (h.yL.Ca ho.blk (by decide));exact ⟨p,Ap,cp,vp,Ar,cr,e,hp.trans ho.blk,ho.d,ho.f,ho.ps.stay (nd ho.pf) (fun i v ad hv ea=>nd (ho.pe i v hv) ad ea),ho.pf,ho.pe,ho.rs.stay (nd ho.rf),ho.rf⟩
theorem gu.qes (h:gu w D F g c st vq vs vo os) (hk:∀k,F k->k≠g->bM vq≠some k->bM vo≠some k->w'.heap[k]? =w.heap[k]?):
 ∀(i:Nat) (p:List UInt8),st.queue[i]? =some p->∃A cc,vs[i]? =some (.slice A p.length cc)/\Sl w' w' A p.length cc (dz p)/\Kt F D A:=fun i p hp=>by
 obtain ⟨A,cc,e,hs,hf⟩:=h.qe i p hp;exact ⟨A,cc,e,hs.stay (fun ad ea=>hk _ (hf ad ea).1 (fun e2=>(hf ad ea).2 (by rw[e2];exact h.gd)) (fun e2=>(hf ad ea).2 (h.qd _ e2)) (fun e2=>(hf ad ea).2 (h.od _ e2))),hf⟩
theorem gu.iY (h:gu w D F g c st vq vs vo os) {w1 w5:World} {x:List UInt8} {A1 A5:Option Addr} {c1 c5:Nat} (hn:1<=x.length) (hb1:Below w w w1) (hx:w1.ownsRow w 5 1 (.slice A1 x.length c1) x.length (dz x))
 (hq:fU w5 0 31 (.slice A5 (st.queue.length+1) c5) (st.queue.length+1) (vs++ [.slice A1 x.length c1])) (hg:(w1.alloc (.cells #[.slice A1 x.length c1] 31)).grownBy w5 (bM vq))
 (hq5:∀k,bM (.slice A5 (st.queue.length+1) c5)=some k->bM vq=some k\/(w1.alloc (.cells #[.slice A1 x.length c1] 31)).heap.size<=k):
 pK w D F g c (dQ st x) (w5.setCell ⟨g,7,none⟩ (.slice A5 (st.queue.length+1) c5)):=by
 have hz1:=hb1.size;have hzA:(w1.alloc (.cells #[.slice A1 x.length c1] 31)).heap.size=w1.heap.size+1:=mZ _ _;have hgl:=h.blk.lt;have hgA:=(h.blk.below hb1 hgl).alloc (.cells #[.slice A1 x.length c1] 31);have hg5:=hgA.grown hg (fun e=>h.gne.1 e.symm);have XQ:=hg5.ay 7 (.slice A5 (st.queue.length+1) c5);obtain ⟨A0,c0,ev,hsl,hA1⟩:=aY hx;cases ev;have QO:=hg.size;have hh:∀k,k<w.heap.size->k≠g->bM vq≠some k->(w5.setCell ⟨g,7,none⟩ (.slice A5 (st.queue.length+1) c5)).heap[k]? =w.heap[k]? :=fun k hk hkg hkq=>by
  rw[iE (show k≠(⟨g,7,none⟩:Addr).block from hkg),hg.block k (by omega) (fun e=>hkq e.symm),yA _ _ k (by omega),hb1.block k hk]
 have UM:∀k,F k->k≠g->bM vq≠some k->bM vo≠some k->(w5.setCell ⟨g,7,none⟩ (.slice A5 (st.queue.length+1) c5)).heap[k]? =w.heap[k]? :=fun k hf h1 h2 _=>hh k (h.lt k hf) h1 h2
 obtain ⟨ad,rfl,e2⟩:=hA1 hn;have e4:ad.block<w1.heap.size:=by
  obtain ⟨ark,e3,e4,_⟩:=hsl.at_ hn;cases e3;exact e4
 have QM:(w5.setCell ⟨g,7,none⟩ (.slice A5 (st.queue.length+1) c5)).heap.size=w5.heap.size:=by simp[World.setCell]
 have hq6:=hq.store hg5 (by decide) (i:=7) (.slice A5 (st.queue.length+1) c5);have ML:∀k,bM (.slice A5 (st.queue.length+1) c5)=some k->D k\/w1.heap.size+1<=k:=fun k hk=>by
  rcases hq5 k hk with e|e
  ·exact .inl (h.qd k e)
  ·exact .inr (by omega)
 have hnn:∀k,F k->¬D k->¬(D k\/bM (.slice A5 (st.queue.length+1) c5)=some k):=fun k hf hd e=>by
  rcases e with e|e
  ·exact hd e
  ·rcases ML k e with e|e
   ·exact hd e
   ·have:=h.lt k hf;omega
 refine ⟨fun k=>D k\/bM (.slice A5 (st.queue.length+1) c5)=some k,fun k=>F k\/bM (.slice A5 (st.queue.length+1) c5)=some k\/k=ad.block,.slice A5 (st.queue.length+1) c5,vs++ [.slice (some ad) x.length c1],vo,os,⟨?_,.inl h.gd,?_,?_,?_,fun k hk=> .inr hk,?_,?_,fun k hk=> .inl (h.od k hk),?_,h.inj⟩,?_,?_,?_⟩
 ·exact XQ
 ·rintro k (hk|hk)
  ·exact .inl (h.sub k hk)
  ·exact .inr (.inl hk)
 ·rintro k (hk|hk|rfl)
  ·have:=h.lt k hk;omega
  ·exact (hq6.lt hk).2
  ·omega
 ·have hl:(dQ st x).queue.length=st.queue.length+1:=by simp[dQ]
  rw[hl];exact hq6
 ·intro i p hi;have hi':(st.queue++ [x])[i]? =some p:=hi;rcases kD i st.queue.length with hlt|hge
  ·rw[mh hlt] at hi';obtain ⟨A,cc,k1,k2,k3⟩:=h.qes UM i p hi';exact ⟨A,cc,by rw[mh (by rw[h.qr.1];exact hlt)];exact k1,k2,k3.sets (fun k hk=> .inl hk) hnn⟩
  ·have hi0:i=st.queue.length:=by
    have:=(pN.1 hi').1;simp at this;omega
   subst hi0;simp at hi';subst hi';refine ⟨some ad,c1,by rw[<-h.qr.1];simp,hsl.stay fun Ew e=> ?_,fun Ew e=> ?_⟩
   ·cases e;rw[iE (show ad.block≠(⟨g,7,none⟩:Addr).block by show ad.block≠g;omega),hg.block _ (by omega) (fun e=>by
     have:=(h.qr.lt e.symm).2;omega),yA _ _ _ (by omega)]
   ·cases e;refine ⟨.inr (.inr rfl),?_⟩;rintro (hd|hd)
    ·have:=h.lt _ (h.sub _ hd);omega
    ·rcases hq5 _ hd with e|e
     ·have:=(h.qr.lt e).2;omega
     ·omega
 ·exact h.yL.keep fun k hk=>hh k (h.yL.lt hk).2 (fun e=>h.gne.2 (by rw[<-e];exact hk)) (fun e=>h.qne k e hk)
 ·intro i y hi;obtain ⟨p,Ap,cp,vp,Ar,cr,k1,k2⟩:=h.oes UM i y hi;exact ⟨p,Ap,cp,vp,Ar,cr,k1,k2.sets (fun k hk=> .inl hk) (fun k hk=> .inl hk) hnn⟩
 ·rintro k (hk|hk)
  ·exact .inl hk
  ·rcases ML k hk with e|e
   ·exact .inl e
   ·exact .inr (by omega)
 ·rintro k (hk|hk|rfl)
  ·exact .inl hk
  ·rcases ML k hk with e|e
   ·exact .inl (h.sub k e)
   ·exact .inr (by omega)
  ·exact .inr e2
 ·have hk1:Kept (fun k _=>D k) w w1:=(Kept.of_below hb1).iI fun k o ho hm=>by have:=lt_of_heap ho;omega
  exact ((hk1.alloc _).grown hg (fun k hk o ho=>h.qd k hk)).setCell (p:=⟨g,7,none⟩) (fun _ _=>h.gd) _
end
end Go.Proofs.YtbhiklnljiehiaaGreat
