/- am: Receive. -/
import Derived.Test.YtbhiklnljiehiaaGreatM1bp
import Derived.Test.YtbhiklnljiehiaaGreatM1bq
import Derived.Test.YtbhiklnljiehiaaGreatM1br
import Derived.Lib.BytesEntry
namespace Go.Proofs.YtbhiklnljiehiaaGreat
section
open Go.RowKit Go.Shelf
attribute [local go_sem] Oper.semAt_some
theorem Jm {w:World} {Fr:Nat→Prop} {g n:Nat} {c:Cf} {r:Rc} (h:wT w Fr g n c r) (ho:tC c r) (hn:n<maxLen) (now:Int) (dM:now≤9223372036854775807) (A:Option Addr) (l cp:Nat) (bs:List UInt8) (hA:∀W,Kept (fun k _=>Fr k) w W→Sl W W.heap.size A l cp (bQ bs)) (hsm:l≤1000000):
 Calls Tryz.prog 57 #[.pointer (some ⟨g,0,none⟩),.int .i64 now,.slice A l cp] w fun e w'=>∃v n' F' T,e= .returned (.tuple #[v,.int .i64 ((fK c r now bs).2.2:Nat)])∧n'≤n+1∧
  wT w' F' g n' c (fK c r now bs).1∧dm w Fr F'∧Kept (fun k _=>Fr k) w w'∧gN w' w.heap.size T v (fK c r now bs).2.1∧∀k,F' k↔T k≠0:=by
 obtain ⟨T,M,vo,h,hF⟩:=h;refine (Gi h ho.ok ho.cf hn now dM A l cp bs (fun W hk=>hA W (hk.mono fun k o hm=>(hF k).2 hm)) hsm).mono ?_;rintro e w' ⟨T',CW,v,n',rfl,hR,hn',hT,hK,hO⟩;refine ⟨v,n',_,T',rfl,hn',wT.of hR,fun k hk=> ?_,hK.mono fun k o hm=>(hF k).2 hm,hO,fun k=>Iff.rfl⟩;rcases Nat.lt_or_ge k w.heap.size with hl|hl
 ·have hk2:T' k≠0:=hk;rw[hT k hl] at hk2;exact .inl ((hF k).2 hk2)
 ·exact .inr hl
structure UU (w:World) (F F':Fp) (ge:Nat) (c:Cf) (s:Sd) (r:Rc) (n:Nat) (x:Value) (W:World):Prop where
 en:ny W F' ge c s r n
 gr:∀k,F' k→F k∨w.heap.size<k
 bs:∀k,F'.b k→F.b k∨w.heap.size<k
 kp:Kept (fun k o=>(F k∧(U8 o→F.b k))∨w.heap.size≤k) w W
 bx:au W w.heap.size 53 #[x]
 lt:∀k,F k→k<w.heap.size
section
variable {w W W':World} {ge n n2:Nat} {c:Cf} {s s2:Sd} {r r2:Rc} {F F':Fp} {x:Value}
theorem zQ.adG (h:zQ w F F' ge c s r n x W) (F2:Fp) (a1:ny W' F2 ge c s2 r2 n2) (a2:dm W F' F2) (ab:dm W F'.b F2.b) (a3:Kept (fun k o=>F' k∧(U8 o→F'.b k)) W W'):UU w F F2 ge c s2 r2 n2 x W':=by
 have hb:=h.bx.lt;refine ⟨a1,fun k hk=> ?_,fun k hk=> ?_,h.kp.trans (a3.mono fun k o hk=> ?_),(jh a3 hb fun _ e=>h.nbx e.1).trans h.bx,h.lt⟩
 ·rcases a2 k hk with e|e
  ·exact h.gr k e
  ·exact .inr (by omega)
 ·rcases ab k hk with e|e
  ·exact .inl (h.bs k e)
  ·exact .inr (by omega)
 ·rcases h.gr k hk.1 with e|e
  ·exact .inl ⟨e,fun u=>h.bs k (hk.2 u)⟩
  ·exact .inr (by omega)
theorem UU.nbx (h:UU w F F' ge c s r n x W):¬F' w.heap.size:=fun e=>by
 rcases h.gr _ e with e|e
 ·have:=h.lt _ e;omega
 ·omega
theorem UU.put (h:UU w F F' ge c s r n x W) (u:Value):UU w F F' ge c s r n u (W.setCell ⟨w.heap.size,0,none⟩ u):=
 ⟨h.en.stay fun k hk=>Below.heap_setCell _ _ _ _ fun e=>h.nbx (by rw[←show k=w.heap.size from e];exact hk),h.gr,h.bs,h.kp.setCell (p:=⟨w.heap.size,0,none⟩) (fun _ _=> .inr (aN)) u,by simpa using h.bx.av 0 u,h.lt⟩
theorem zQ.v (h:zQ w F F' ge c s r n x W):UU w F F' ge c s r n x W:=⟨h.en,h.gr,fun k e=> .inl (h.bs k e),h.kp,h.bx,h.lt⟩
structure Rk (w:World) (F F':Fp) (ge:Nat) (c:Cf) (s:Sd) (r:Rc) (n:Nat) (w':World):Prop where
 en:ny w' F' ge c s r n
 gr:dm w F F'
 gb:dm w F.b F'.b
 kp:Kept (fun k o=>F k∧(U8 o→F.b k)) w w'
theorem UU.done (h:UU w F F' ge c s r n x W):Rk w F F' ge c s r n W:=
 ⟨h.en,fun k hk=>(h.gr k hk).imp id fun e=>by omega,fun k hk=>(h.bs k hk).imp id fun e=>by omega,h.kp.gH fun k o ho hk=>by
  rcases hk with e|e
  ·exact e
  ·have:=lt_of_heap ho;omega⟩
theorem gN.put {T:Nat→Nat} {base g i:Nat} {t:TypeId} {v u:Value} {cs:Array Value} {outs:List (List UInt8)} (h:gN W base T v outs) (b:au W g t cs) (h1:31≠t) (h2:5≠t):gN (W.setCell ⟨g,i,none⟩ u) base T v outs:=by
 obtain ⟨vs,k1,k2,k3⟩:=h;exact ⟨vs,aL k1 b h1 u,k2,fun i q hi=>by
  obtain ⟨vi,e1,e2,e3⟩:=k3 i q hi;exact ⟨vi,e1,aL e2 b h2 u,e3⟩⟩
theorem ny.aia {w w':World} {gs gr ge n n':Nat} {c:Cf} {s:Sd} {r r':Rc} {Fs Fr Y4:Nat→Prop} {F:Fp} (h1:au w ge 52 #[.pointer (some ⟨gs,0,none⟩),.pointer (some ⟨gr,0,none⟩)]) (h2:BS w Fs gs c s) (_h3:wT w Fr gr n c r) (h4:∀k,Fs k→¬Fr k) (h5:¬Fs ge) (h6:¬Fr ge) (hF:UR F ge Fs Fr) (a1:wT w' Y4 gr n' c r') (a2:dm w Fr Y4) (a3:Kept (fun k _=>Fr k) w w'):
 ny w' ⟨fun k=>k=ge∨Fs k∨Y4 k,Y4⟩ ge c s r' n'∧dm w F (fun k=>k=ge∨Fs k∨Y4 k)∧dm w F.b Y4∧Kept (fun k o=>F k∧(U8 o→F.b k)) w w':=by
 refine ⟨⟨gs,gr,Fs,Y4,(jh a3 h1.lt fun _=>h6).trans h1,h2.stay fun k hk=>jh a3 (h2.lt k hk) fun _ e=>h4 k hk e,a1,fun k hk hk2=> ?_,h5,fun e=> ?_,fun _=>Iff.rfl,fun _=>Iff.rfl⟩,fun k hk=> ?_,fun k hk=> ?_,a3.mono fun k _ e=>⟨(hF.1 k).2 (.inr (.inr e)),fun _=>(hF.2 k).2 e⟩⟩
 ·rcases a2 k hk2 with e|e
  ·exact h4 k hk e
  ·have:=h2.lt k hk;omega
 ·rcases a2 ge e with e|e
  ·exact h6 e
  ·have:=h1.lt;omega
 ·rcases hk with e|e|e
  ·exact .inl ((hF.1 k).2 (.inl e))
  ·exact .inl ((hF.1 k).2 (.inr (.inl e)))
  ·rcases a2 k e with e|e
   ·exact .inl ((hF.1 k).2 (.inr (.inr e)))
   ·exact .inr e
 ·rcases a2 k hk with e|e
  ·exact .inl ((hF.2 k).2 e)
  ·exact .inr e
def aib (w:World) (F:Fp) (ge:Nat) (c:Cf) (n:Nat) (R:Sd × Rc × List (List UInt8) × Int) (e:Ending) (w':World):Prop:=
 ∃v n' F' T,e= .returned (.tuple #[v,.int .i64 R.2.2.2])∧n'≤n+1∧Rk w F F' ge c R.1 R.2.1 n' w'∧gN w' w.heap.size T v R.2.2.1∧(∀k,F'.b k→T k≠0)∧∀k,v.ownBlock=some k→¬F' k
end
section
variable {w:World} {gs gr ge n K:Nat} {c:Cf} {s:Sd} {r:Rc} {Fs Fr:Nat→Prop} {F:Fp}
theorem wX {Q:Ending→World→Prop} (W:World) (b:Nat) (v x:Value) (T:Array Value) (h6:T[6]? =some v) (h7:T[7]? =some (.pointer (some ⟨b,0,none⟩))) (he:au W b 53 #[x]) (hQ:Q (.returned (.tuple #[v,x])) W):
 bodyPostD Tryz.prog Tryz.f19 Q .ret {tmps:=T,defers:= [{target:= .fn (.func 49) #[],args:= #[.pointer (some ⟨b,0,none⟩)]}]} W:=by
 refine leaves_cons (f:=49) (args:= #[.pointer (some ⟨b,0,none⟩)]) (by simp) (by simp[go_sem]) ?_;refine (oL _ _).mono ?_;rintro e9 u9 w9 ⟨rfl,rfl,rfl⟩;have c0:=he.cell 0;simp at c0;exact ⟨.tuple #[v,x],by simp[results,Tryz.results19,go_sem,h6,h7,c0],hQ⟩
theorem Cz {Q:Ending→World→Prop} (W:World) (b:Nat) (v x:Value) (er:Int) (T:Array Value) (h6:T[6]? =some v) (h7:T[7]? =some (.pointer (some ⟨b,0,none⟩))) (he:au W b 53 #[x]) (hQ:Q (.returned (.tuple #[v,.int .i64 er])) (W.setCell ⟨b,0,none⟩ (.int .i64 er))):
 bodyPostD Tryz.prog Tryz.f19 Q (.panic [{v:= .iface 53 (.int .i64 er),recovered:=false}]) {tmps:=T,defers:= [{target:= .fn (.func 49) #[],args:= #[.pointer (some ⟨b,0,none⟩)]}]} W:=by
 refine leaves_cons (f:=49) (args:= #[.pointer (some ⟨b,0,none⟩)]) (by simp) (by simp[go_sem]) ?_;refine (lY _ er _ W he).mono ?_;rintro e u' w'' ⟨rfl,rfl,rfl⟩;have c0:=(he.av 0 (.int .i64 er)).cell 0;simp at c0;exact ⟨.tuple #[v,.int .i64 er],by simp[results,Tryz.results19,go_sem,h6,h7,c0],hQ⟩
set_option maxRecDepth 100000 in
set_option maxHeartbeats 1000000 in
theorem wY (h:ny w F ge c s r n) (ho:fq c s K) (hK:K≤90000) (hr:tC c r) (hn:n<maxLen) (now:Int) (dM:now≤9223372036854775807) (A:Option Addr) (m cc:Nat) (bs:List UInt8)
 (hs:∀W,Kept (fun k o=>F k∧(U8 o→F.b k)) w W→Sl W W.heap.size A m cc (bQ bs)) (hsm:m≤1000000):
 Calls Tryz.prog 19 #[.pointer (some ⟨ge,0,none⟩),.int .i64 now,.slice A m cc] w (aib w F ge c n (bF c s r now bs)):=by
 have hs0:=hs w (Kept.refl _ _);have hlen:bs.length=m:=by simpa using hs0.len
 have hE:=zQ.start h (.int .i64 0);obtain ⟨gs,gr,Fs,Fr,h1,h2,h3,h4,h5,h6,hF⟩:=id hE.en;have x0:=h1.cell 0;have x1:=h1.cell 1;simp at x0 x1;have HN:=ah (pR h1);have HE:=ah hE;have HS:=ah hs;cases bs with
 |nil=>
  obtain rfl:m=0:=by simpa using hlen.symm
  have Rh:=zQ.start h (.int .i64 5);have c0:=hE.bx.cell 0;have f0:=hE.bx.frozen 0;have c3:=Rh.bx.cell 0;simp at c0 c3;have hR:bF c s r now []=(s,r,[],5):=rfl;rw[hR];clear h ho hr hR hs hs0 hE h1 h2 h3 h4 h5 h6 hF
  go_enter_defers Tryz.func19,Tryz.ntmps19
  go_wp2_with (go_at_call 48;refine HN.out.mono ?_;rintro e1 w1 ⟨rfl,rfl⟩);exact ⟨.tuple #[.slice none 0 0,.int .i64 5],by simp[results,Tryz.results19,go_sem],_,n,F,fun _=>1,rfl,by omega,Rh.v.done,gN.nil _ _ _,fun k _=>by simp,fun k e=>by cases e⟩
 |cons b t=>
  obtain ⟨m,rfl⟩:∃k,m=k+1:=⟨m-1,by simp at hlen;omega⟩
  obtain ⟨ad,rfl,Bh,hcl⟩:=hs0.at_ (by omega);have hb0:w.cell? ad=some (.int .u8 b.toNat):=by have:=hcl 0 (bv b) (by simp[bQ]);simpa[Addr.add,bv] using this
  have hmn:((m:Int)+1==0)=false:=by simp;omega
  by_cases hlo:b.toNat<128
  ·have hq:(b.toNat:Int)/128=0:=by omega
   obtain ⟨W,hW⟩:∃W,(w.alloc (.cells #[.int .i64 0] 53)).alloc (.cells #[.func (.func 56) #[.pointer (some ⟨ge,0,none⟩)] #[],.func (.func 57) #[.pointer (some ⟨gr,0,none⟩)] #[]] 97)=W:=⟨_,rfl⟩
   have hB:Below w.heap.size w W:=by rw[←hW];exact ((Below.refl _ w).alloc (aN) _).alloc (by simp) _
   have Z5:zQ w F F ge c s r n (.int .i64 0) W:=by rw[←hW];exact hE.more ((Below.refl _ _).alloc (aN) _)
   have hsl:Sl W W.heap.size (some ad) (m+1) cc (bQ (b::t)):=HS.out W (Kept.dP hB);have aic:W.cell? ad=some (.int .u8 b.toNat):=(hB.cell Bh).trans hb0;have bfn:au W (w.heap.size+1) 97 #[.func (.func 56) #[.pointer (some ⟨ge,0,none⟩)] #[],.func (.func 57) #[.pointer (some ⟨gr,0,none⟩)] #[]]:=by
    rw[←hW];have:=au.new (w.alloc (.cells #[.int .i64 0] 53)) 97 #[.func (.func 56) #[.pointer (some ⟨ge,0,none⟩)] #[],.func (.func 57) #[.pointer (some ⟨gr,0,none⟩)] #[]];rw[World.size_alloc] at this;exact this
   have bf0:=bfn.cell 0;simp only[List.getElem?_toArray,List.getElem?_cons_zero] at bf0;have hrep:=Jl Z5.en ho hK now dM (some ad) (m+1) cc (b::t) hsl hsm;have QK:=ah hrep;have HEW:=ah Z5;have Z6:bF c s r now (b::t)=match kL (b::t) with
    | .inl er=>(s,r,[],(er:Nat))
    | .inr R=>((dL c s now (R.1:Nat) R.2).1,r,[],(dL c s now (R.1:Nat) R.2).2):=by
    unfold bF;rw[if_neg (by simp),if_pos (show ((b::t).headD 0).toNat<128 from hlo)]
    all_goals (cases kL (b::t)<;>rfl)
   obtain ⟨RR,hRR⟩:∃RR,bF c s r now (b::t)=RR:=⟨_,rfl⟩
   rw[hRR];rw[hRR] at Z6;have YV:=ah Z6;clear h ho hr hs hs0 hE h1 h2 h3 h4 h5 h6 hF hB Z5 hsl hrep Z6 hRR HE HS hcl hlen
   go_enter_defers Tryz.func19,Tryz.ntmps19
   go_wp2_with (go_at_call 48;refine HN.out.mono ?_;rintro e1 w1 ⟨rfl,rfl⟩);refine QK.out.mono ?_;rintro e5 w5 (⟨er,hd,rfl,hb5⟩|⟨Q,hd,rfl,hG⟩)
   ·have hRR:=YV.out;rw[hd] at hRR;dsimp only at hRR;subst hRR;exact Cz _ _ _ _ (er:Int) _ rfl rfl (HEW.out.more hb5).bx ⟨_,n,F,fun _=>1,rfl,by omega,((HEW.out.more hb5).put _).v.done,gN.nil _ _ _,fun _ _=>by simp,fun k e=>by cases e⟩
   ·have hRR:=YV.out;rw[hd] at hRR;dsimp only at hRR;subst hRR;obtain ⟨F2,hE2⟩:=HEW.out.call hG;have c5:=hE2.bx.cell 0;have f5:=hE2.bx.frozen 0;simp at c5;have HE3:=ah (hE2.put (.int .i64 (dL c s now (Q.1:Nat) Q.2).2));clear hE2 hG hd;go_wp2_with fail;exact wX _ _ _ _ _ rfl rfl HE3.out.bx ⟨_,n,F2,fun _=>1,rfl,by omega,HE3.out.v.done,gN.nil _ _ _,fun _ _=>by simp,fun k e=>by cases e⟩
  ·have hbl:=b.toNat_lt;have hq:(b.toNat:Int)/128=1:=by omega
   obtain ⟨W,hW⟩:∃W,(w.alloc (.cells #[.int .i64 0] 53)).alloc (.cells #[.func (.func 56) #[.pointer (some ⟨ge,0,none⟩)] #[],.func (.func 57) #[.pointer (some ⟨gr,0,none⟩)] #[]] 97)=W:=⟨_,rfl⟩
   have hB:Below w.heap.size w W:=by rw[←hW];exact ((Below.refl _ w).alloc (aN) _).alloc (by simp) _
   have Z5:zQ w F F ge c s r n (.int .i64 0) W:=by rw[←hW];exact hE.more ((Below.refl _ _).alloc (aN) _)
   have hsl:Sl W W.heap.size (some ad) (m+1) cc (bQ (b::t)):=HS.out W (Kept.dP hB);have hBW:Below (w.alloc (.cells #[.int .i64 0] 53)).heap.size (w.alloc (.cells #[.int .i64 0] 53)) W:=by rw[←hW];exact (Below.refl _ _).alloc (aN) _
   have aic:W.cell? ad=some (.int .u8 b.toNat):=(hB.cell Bh).trans hb0;have bfn:au W (w.heap.size+1) 97 #[.func (.func 56) #[.pointer (some ⟨ge,0,none⟩)] #[],.func (.func 57) #[.pointer (some ⟨gr,0,none⟩)] #[]]:=by
    rw[←hW];have:=au.new (w.alloc (.cells #[.int .i64 0] 53)) 97 #[.func (.func 56) #[.pointer (some ⟨ge,0,none⟩)] #[],.func (.func 57) #[.pointer (some ⟨gr,0,none⟩)] #[]];rw[World.size_alloc] at this;exact this
   have RL:=bfn.cell 1;simp only[List.getElem?_toArray,List.getElem?_cons_succ,List.getElem?_cons_zero] at RL;have hrc:=Jm (h3.below hBW) hr hn now dM (some ad) (m+1) cc (b::t) (fun W2 hk=>HS.out W2 ((Kept.dP hB).trans (hk.mono fun k o hf=>⟨(hF.1 k).2 (.inr (.inr hf)),fun _=>(hF.2 k).2 hf⟩))) hsm;have adI:=ah hrc;have Mi:=ah (show ge<W.heap.size from (h1.below hBW h1.lt).lt);have HFS:=ah (fun k hk=>show k<W.heap.size from (h2.below hBW).lt k hk);have Mb:=ah (fun (w5:World) (n':Nat) (F':Nat→Prop) (a1:wT w5 F' gr n' c (fK c r now (b::t)).1) (a2:dm W Fr F') (a3:Kept (fun k _=>Fr k) W w5)=>ny.aia (h1.below hBW h1.lt) (h2.below hBW) (h3.below hBW) h4 h5 h6 hF a1 a2 a3);have HEW:=ah Z5;have HZ:=ah hB.size;have Z6:bF c s r now (b::t)=(s,(fK c r now (b::t)).1,(fK c r now (b::t)).2.1,(((fK c r now (b::t)).2.2:Nat):Int)):=by
    unfold bF;rw[if_neg (by simp),if_neg (show ¬((b::t).headD 0).toNat<128 from hlo)]
   rw[Z6];obtain ⟨RR,hRR⟩:∃RR,fK c r now (b::t)=RR:=⟨_,rfl⟩
   rw[hRR] at adI Mb ⊢;clear h ho hr hs hs0 hE h1 h2 h3 h4 h5 h6 hF hB Z5 hrc Z6 hRR HE HS hcl hlen bfn hBW
   go_enter_defers Tryz.func19,Tryz.ntmps19
   go_wp2_with (go_at_call 48;refine HN.out.mono ?_;rintro e1 w1 ⟨rfl,rfl⟩);refine adI.out.mono ?_;rintro e5 w5 ⟨v5,n5,F5,T5,rfl,XK,qU,pW,Oi,Gz,CY⟩;obtain ⟨q1,q2,q3,q4⟩:=Mb.out w5 n5 F5 qU pW Oi;have hV:=HEW.out.adG _ q1 q2 q3 q4;have c5:=hV.bx.cell 0;have f5:=hV.bx.frozen 0;simp at c5;have HV:=ah (hV.put (.int .i64 (RR.2.2:Nat)));have HO:=ah ((Gz.put (i:=0) (u:= .int .i64 (RR.2.2:Nat)) hV.bx (by decide) (by decide)).yF HZ.out);have HT:=ah CY;have hnv:∀k,v5.ownBlock=some k→¬(k=ge∨Fs k∨F5 k):=fun k hk e=>by
    obtain ⟨vs,o1,o2,_⟩:=Gz;have h9:=(o1.lt k hk).1;rcases e with e|e|e
    ·have:=Mi.out;omega
    ·have:=HFS.out k e;omega
    ·exact (CY k).1 e (o2 k hk)
   have HNV:=ah hnv;clear hnv hV q1 q2 q3 q4 Gz CY qU pW Oi;go_wp2_with fail;exact wX _ _ _ _ _ rfl rfl HV.out.bx ⟨_,n5,_,T5,rfl,XK,HV.out.done,HO.out,fun k hk=>(HT.out k).1 hk,HNV.out⟩
end
end
section
open Go.RowKit Go.Shelf
theorem mr {W:World} {base n:Nat} {v:Value} {xs:List Value} (h:W.ownsRow base 5 1 v n xs) {j:Nat} (hj:v.ownBlock=some j):∃cs fr,W.heap[j]? =some (.cells cs 5 fr):=by
 rcases h.2 with ⟨rfl,_⟩|⟨q,cap,cur,rfl,q1,q2,_⟩
 ·cases hj
 ·have e2:q=j:=by injection hj
  subst e2;exact ⟨_,_,q2⟩
theorem EP {w:World} {b b':Nat} {e e':TypeId} {v:Value} {n:Nat} {xs xs':List Value} (h:w.ownsRow b e 1 v n xs) (h':w.ownsRow b' e' 1 v n xs'):xs=xs':=by
 have l1:=h.1;have l2:=h'.1;rcases h.2 with ⟨rfl,h0⟩|⟨g,cap,cur,rfl,hb,hh,_,_,_,ht⟩
 ·exact (List.eq_nil_of_length_eq_zero (by omega)).trans (List.eq_nil_of_length_eq_zero (by omega)).symm
 ·rcases h'.2 with ⟨e1,_⟩|⟨g',cap',cur',e1,hb',hh',_,_,_,ht'⟩
  ·cases e1
  ·cases e1;rw[hh] at hh';cases hh';exact ht.symm.trans ht'
structure Two (w0:World) (ga gb:Nat) (c:Cf) (sa:Sd) (ra:Rc) (na:Nat) (sb:Sd) (rb:Rc) (nb:Nat) (Fa Fb:Fp) (W:World):Prop where
 lN:Below w0.heap.size w0 W
 ea:ny W Fa ga c sa ra na
 eb:ny W Fb gb c sb rb nb
 fa:∀k,Fa k→w0.heap.size≤k∧¬Fb k
 fb:∀k,Fb k→w0.heap.size≤k
def Jn (W w0:World) (Fa Fb:Fp) (v:Value) (q:List UInt8):Prop:=W.ownsRow w0.heap.size 5 1 v q.length (bQ q)∧∀k,v.ownBlock=some k→¬Fa.b k∧¬Fb.b k
def Si (W w0:World) (Fa Fb:Fp) (v:Value) (vs:List Value) (l:List (List UInt8)):Prop:=
 W.ownsRow w0.heap.size 31 1 v l.length vs∧(∀k,v.ownBlock=some k→¬Fa k∧¬Fb k)∧∀(i:Nat) (q:List UInt8),l[i]? =some q→∃vi,vs[i]? =some vi∧Jn W w0 Fa Fb vi q
section
variable {w0 W W':World} {ga gb na nb na' K:Nat} {c:Cf} {sa sb s:Sd} {ra rb r:Rc} {Fa Fb kD:Fp} {v:Value} {q:List UInt8} {vs:List Value} {l:List (List UInt8)}
theorem Two.swap (h:Two w0 ga gb c sa ra na sb rb nb Fa Fb W):Two w0 gb ga c sb rb nb sa ra na Fb Fa W:=
 ⟨h.lN,h.eb,h.ea,fun k hk=>⟨h.fb k hk,fun e=>(h.fa k e).2 hk⟩,fun k hk=>(h.fa k hk).1⟩
theorem Two.below (h:Two w0 ga gb c sa ra na sb rb nb Fa Fb W) (hb:Below W.heap.size W W'):Two w0 ga gb c sa ra na sb rb nb Fa Fb W':=
 ⟨h.lN.trans (hb.mono h.lN.size),h.ea.below hb,h.eb.below hb,h.fa,h.fb⟩
theorem Two.call (h:Two w0 ga gb c sa ra na sb rb nb Fa Fb W) (hR:Rk W Fa kD ga c s r na' W'):Two w0 ga gb c s r na' sb rb nb kD Fb W':=by
 have hz:=h.lN.size;refine ⟨h.lN.trans (hR.kp.below (fun k _ e=>(h.fa k e.1).1) hz),hR.en,h.eb.stay fun k hk=>jh hR.kp (h.eb.lt k hk) fun o e=>(h.fa k e.1).2 hk,fun k hk=> ?_,h.fb⟩;rcases hR.gr k hk with e|e
 ·exact h.fa k e
 ·exact ⟨by omega,fun e2=>by have:=h.eb.lt k e2;omega⟩
theorem Jn.swap (h:Jn W w0 Fa Fb v q):Jn W w0 Fb Fa v q:=⟨h.1,fun k hk=>(h.2 k hk).symm⟩
theorem Jn.below (h:Jn W w0 Fa Fb v q) (hb:Below W.heap.size W W'):Jn W' w0 Fa Fb v q:=⟨own_below h.1 hb (aN),h.2⟩
theorem Jn.call (h:Jn W w0 Fa Fb v q) (hR:Rk W Fa kD ga c s r na' W'):Jn W' w0 kD Fb v q:=by
 refine ⟨bT h.1 fun k hk=> ?_,fun k hk=>⟨fun e=> ?_,(h.2 k hk).2⟩⟩
 ·obtain ⟨cs,fr,hc⟩:=mr h.1 hk;exact (hR.kp.same _ _ hc fun e=>(h.2 k hk).1 (e.2 ⟨cs,fr,rfl⟩)).trans hc.symm
 ·rcases hR.gb k e with e|e
  ·exact (h.2 k hk).1 e
  ·have:=(h.1.lt k hk).2;omega
theorem Jn.sl (h:Jn W w0 Fa Fb v q):∃A cc,v= .slice A q.length cc∧Sl W W.heap.size A q.length cc (bQ q):=by
 obtain ⟨A,cc,e,hs,_⟩:=aS h.1;exact ⟨A,cc,e,hs⟩
theorem Si.swap (h:Si W w0 Fa Fb v vs l):Si W w0 Fb Fa v vs l:=⟨h.1,fun k hk=>(h.2.1 k hk).symm,fun i q hi=>let ⟨vi,e,hb⟩:=h.2.2 i q hi;⟨vi,e,hb.swap⟩⟩
theorem Si.below (h:Si W w0 Fa Fb v vs l) (hb:Below W.heap.size W W'):Si W' w0 Fa Fb v vs l:=⟨own_below h.1 hb (aN),h.2.1,fun i q hi=>let ⟨vi,e,hq⟩:=h.2.2 i q hi;⟨vi,e,hq.below hb⟩⟩
theorem Si.call (h:Si W w0 Fa Fb v vs l) (hR:Rk W Fa kD ga c s r na' W'):Si W' w0 kD Fb v vs l:=by
 refine ⟨bT h.1 fun k hk=>jh hR.kp (h.1.lt k hk).2 fun o e=>(h.2.1 k hk).1 e.1,fun k hk=>⟨fun e=> ?_,(h.2.1 k hk).2⟩,fun i q hi=>let ⟨vi,e,hb⟩:=h.2.2 i q hi;⟨vi,e,hb.call hR⟩⟩;rcases hR.gr k e with e|e
 ·exact (h.2.1 k hk).1 e
 ·have:=(h.1.lt k hk).2;omega
theorem Oy.toR (h:Oy W Fa ga c s r na' W'):∃kD,Rk W Fa kD ga c s r na' W'∧∀k,kD.b k→Fa.b k:=by
 obtain ⟨F',a1,a2,ab,a3⟩:=h;exact ⟨F',⟨a1,a2,fun k hk=> .inl (ab k hk),a3⟩,ab⟩
theorem Lf (h:Two w0 ga gb c sa ra na sb rb nb Fa Fb W) (ho:fq c sa K) {A:Option Addr} {m cc:Nat} {x:List UInt8} (hx:Sl W W.heap.size A m cc (bQ x)):
 Calls Tryz.prog 21 #[.pointer (some ⟨ga,0,none⟩),.slice A m cc] W fun e W'=>∃kD,e= .returned (.int .i64 (aW c sa x).2)∧Rk W Fa kD ga c (aW c sa x).1 ra na W':=by
 refine (yX h.ea ho hx).mono ?_;rintro e W' ⟨rfl,hG⟩;obtain ⟨kD,hR,_⟩:=hG.toR;exact ⟨kD,rfl,hR⟩
theorem EQ (h:Two w0 ga gb c sa ra na sb rb nb Fa Fb W) (ho:fq c sa K) (hK:K≤80000) (hr:tC c ra) (now N:Int) (dM:now≤9223372036854775807) (hN:N≤9223372036854775807):
 Calls Tryz.prog 18 #[.pointer (some ⟨ga,0,none⟩),.int .i64 now,.int .i64 N] W fun e W'=>∃v kD,e= .returned (.tuple #[v,.int .i64 (aM c sa ra now N).2.2.2])∧Rk W Fa kD ga c (aM c sa ra now N).1 (aM c sa ra now N).2.1 na W'∧Jn W' w0 kD Fb v (aM c sa ra now N).2.2.1:=by
 refine (Cy h.ea ho hK hr now N dM hN).mono ?_;rintro e W' ⟨v,rfl,hv,hG⟩;obtain ⟨kD,hR,hb⟩:=hG.toR;refine ⟨v,kD,rfl,hR,aU hv h.lN.size,fun k hk=> ?_⟩;have h9:=(hv.lt k hk).1;exact ⟨fun e=>by have:=h.ea.lt k (h.ea.Rb k (hb k e));omega,fun e=>by have:=h.eb.lt k (h.eb.Rb k e);omega⟩
theorem lQ (h:Two w0 ga gb c sa ra na sb rb nb Fa Fb W) (ho:fq c sa K) (hK:K≤90000) (hr:tC c ra) (hn:na<maxLen) (now:Int) (dM:now≤9223372036854775807) (A:Option Addr) (m cc:Nat) (bs:List UInt8)
 (hs:∀W2,Kept (fun k o=>Fa k∧(U8 o→Fa.b k)) W W2→Sl W2 W2.heap.size A m cc (bQ bs)) (hsm:m≤1000000):
 Calls Tryz.prog 19 #[.pointer (some ⟨ga,0,none⟩),.int .i64 now,.slice A m cc] W fun e W'=>∃v vs na' kD,e= .returned (.tuple #[v,.int .i64 (bF c sa ra now bs).2.2.2])∧na'≤na+1∧Rk W Fa kD ga c (bF c sa ra now bs).1 (bF c sa ra now bs).2.1 na' W'∧Si W' w0 kD Fb v vs (bF c sa ra now bs).2.2.1:=by
 refine (wY h.ea ho hK hr hn now dM A m cc bs hs hsm).mono ?_;rintro e W' ⟨v,n',F',T,rfl,hn',hR,⟨vs,o1,o2,o3⟩,hT,hV⟩;refine ⟨v,vs,n',F',rfl,hn',hR,aU o1 h.lN.size,fun k hk=>⟨hV k hk,fun e=> ?_⟩,fun i q hi=> ?_⟩
 ·have h9:=(o1.lt k hk).1;have:=h.eb.lt k e;omega
 ·obtain ⟨vi,e1,e2,e3⟩:=o3 i q hi;refine ⟨vi,e1,aU e2 h.lN.size,fun k hk=>⟨fun e=>hT k e (e3 k hk),fun e=> ?_⟩⟩;have h9:=(e2.lt k hk).1;have:=h.eb.lt k (h.eb.Rb k e);omega
theorem Jn.arg (h:Jn W w0 Fa Fb v q) {A:Option Addr} {n cc:Nat} (e:v= .slice A n cc):∀W2,Kept (fun k o=>Fa k∧(U8 o→Fa.b k)) W W2→Sl W2 W2.heap.size A n cc (bQ q):=by
 intro W2 hk;have h2:W2.ownsRow w0.heap.size 5 1 v q.length (bQ q):=bT h.1 fun k hk2=>by
  obtain ⟨cs,fr,hc⟩:=mr h.1 hk2;exact (hk.same _ _ hc fun e=>(h.2 k hk2).1 (e.2 ⟨cs,fr,rfl⟩)).trans hc.symm
 subst e;obtain ⟨A',c',e',hs,_⟩:=aS h2;cases e';exact hs
end
end
section
open Go.RowKit Go.Shelf
attribute [local go_sem] Oper.semAt_some
theorem fq.mono {c:Cf} {s:Sd} {K K':Nat} (h:fq c s K) (hk:K≤K'):fq c s K':=⟨h.cf,h.inv,h.bnd.mono hk⟩
theorem CB {c:Cf} {s:Sd} {r:Rc} {K:Nat} (ho:fq c s K) (hr:tC c r) {now:Int} (hn:now≤9223372036854775807) (n:Int):fq c (aM c s r now n).1 (K+6)∧tC c (aM c s r now n).2.1:=by
 have ht:=ho.tick now hn;unfold aM;split
 ·exact ⟨ho.mono (by omega),hr⟩
 split
 ·exact ⟨ho.mono (by omega),hr⟩
 split
 ·exact ⟨ht.mono (by omega),hr⟩
 split
 ·exact ⟨ht.mono (by omega),(hr.goes hn).kI hn n⟩
 ·exact ⟨(ht.kI now n hn).mono (by omega),hr.goes hn⟩
theorem mD {c:Cf} {s:Sd} {r:Rc} {K:Nat} (ho:fq c s K) (hr:tC c r) {now:Int} (hn:now≤9223372036854775807) (x:List UInt8):fq c (bF c s r now x).1 (K+3)∧tC c (bF c s r now x).2.1:=by
 unfold bF;split
 ·exact ⟨ho.mono (by omega),hr⟩
 split
 ·split
  ·exact ⟨ho.mono (by omega),hr⟩
  ·exact ⟨ho.status now _ _ hn,hr⟩
 ·exact ⟨ho.mono (by omega),hr.recv hn x⟩
theorem N5 {a0 a1 a2 a3 a4 a5 a6:Int} (h:dR a0 a1 a2 a3 a4 a5 a6=true):ZS (sZ a0 a1 a2 a3 a4 a5 a6):=by
 unfold dR at h;simp only[Bool.and_eq_true] at h;obtain ⟨_,_,_,h4,_,_⟩:=h;have q3:=jL h4 a3 (by simp);have q4:=jL h4 a4 (by simp);exact ⟨q3.1,q3.2,q4.1,q4.2⟩
theorem pU {a0 a1 a2 a3 a4 a5 a6:Int} (h:dR a0 a1 a2 a3 a4 a5 a6=true):fq (sZ a0 a1 a2 a3 a4 a5 a6) dK 0:=⟨II h,qO.new,jW.new⟩
theorem sP {a0 a1 a2 a3 a4 a5 a6:Int} (h:dR a0 a1 a2 a3 a4 a5 a6=true):tC (sZ a0 a1 a2 a3 a4 a5 a6) gq:=⟨N5 h,Jb.1,Jb.2⟩
def kc:Cf:=sZ 0 0 10 0 0 1 1000
def k1:Sd:=(aW kc dK [104,105]).1
theorem ko1:(aW kc dK [104,105]).2=0:=by decide+kernel
def k2:Sd × Rc × List UInt8 × Int:=aM kc k1 gq 0 9
theorem ko2:k2.2.2=([160,0,104,105],0):=by decide+kernel
def k3:Sd × Rc × List (List UInt8) × Int:=bF kc dK gq 0 [160,0,104,105]
theorem ko3:k3.2.2=([[104,105]],0):=by decide+kernel
theorem ko4:tO k3.2.1 0=true:=by decide+kernel
def k5:Sd × Rc × List UInt8 × Int:=aM kc k3.1 k3.2.1 0 9
theorem ko5:k5.2.2=([0,4],0):=by decide+kernel
def k6:Sd × Rc × List (List UInt8) × Int:=bF kc k2.1 k2.2.1 0 [0,4]
theorem ko6:k6.2.2=([],0):=by decide+kernel
def k7:Sd × Rc × List (List UInt8) × Int:=bF kc k6.1 k6.2.1 0 []
theorem ko7:k7.2.2=([],5):=by decide+kernel
def k8:Sd × Rc × List (List UInt8) × Int:=bF kc k7.1 k7.2.1 0 [128]
theorem ko8:k8.2.2=([],5):=by decide+kernel
def k9:Sd × Rc × List (List UInt8) × Int:=bF kc k8.1 k8.2.1 0 [0,20]
theorem ko9:k9.2.2=([],6):=by decide+kernel
theorem aid:k9.1.done=1:=by decide+kernel
theorem kR:dR 0 0 10 0 0 1 1000=true:=by decide
theorem adJ:fq kc k1 0:=(pU kR).iK _
theorem UW:fq kc k2.1 6∧tC kc k2.2.1:=CB adJ (sP kR) (by decide) 9
theorem adK:fq kc k3.1 3∧tC kc k3.2.1:=mD (pU kR) (sP kR) (by decide) _
theorem UX:fq kc k6.1 9∧tC kc k6.2.1:=mD UW.1 UW.2 (by decide) _
theorem UY:fq kc k7.1 12∧tC kc k7.2.1:=mD UX.1 UX.2 (by decide) _
theorem UZ:fq kc k8.1 15∧tC kc k8.2.1:=mD UY.1 UY.2 (by decide) _
theorem aie:fq kc k9.1 18∧tC kc k9.2.1:=mD UZ.1 UZ.2 (by decide) _
theorem Ro (W:World) (l:List UInt8) (hl:l.length≤1000) (fr:Nat × Nat):Sl (W.alloc (.cells (bQ l).toArray 5 fr)) (W.alloc (.cells (bQ l).toArray 5 fr)).heap.size (some ⟨W.heap.size,0,none⟩) l.length l.length (bQ l):=by
 have:=xC (oP W (.cells (bQ l).toArray 5 fr)) (xs:=bQ l) (by simp) (by simp;omega);simpa using this
theorem Mj {W:World} {F:Fp} (hF:∀k,F k→k<W.heap.size) (l:List UInt8) (hl:l.length≤1000):∀W2,Kept (fun k o=>F k∧(U8 o→F.b k)) (W.alloc (.cells (bQ l).toArray 5)) W2→Sl W2 W2.heap.size (some ⟨W.heap.size,0,none⟩) l.length l.length (bQ l):=by
 intro W2 hk;have hb0:=au.new W 5 (bQ l).toArray;have hb:au W2 W.heap.size 5 (bQ l).toArray:=(jh hk hb0.lt fun o e=>by have:=hF _ e.1;omega).trans hb0;exact ⟨by simp,aN,by omega,fun h0=>⟨_,rfl,hb.lt,fun j u hu=>by
  rw[Addr.add_lit,Nat.zero_add];exact (hb.cell j).trans (by simpa using hu)⟩⟩
theorem Y6 (W:World):Sl W W.heap.size none 0 0 (bQ []):=⟨rfl,aN,by omega,fun h=>by omega⟩
set_option maxRecDepth 100000 in
set_option maxHeartbeats 4000000 in
theorem r9 (w:World):Calls Tryz.prog 10 #[] w fun e w'=>e= .returned (.bool true)∧Below w.heap.size w w':=by
 have hN0:=EO 0 0 10 0 0 1 1000;unfold wK at hN0;have HN:=ah hN0;clear hN0;have kcv:=fun (w:World) (C:Array Value) (n c:Nat)=>Lib.run_convert_bytes_const (P:=Tryz.prog) w 31 5 C n c und29 und5
 go_enter Tryz.func10,Tryz.ntmps10;go_wp2_with fail;have HB0:=ah ((Below.refl _ w).alloc (aN) (.cells #[.int .i64 0,.int .i64 0,.int .i64 10,.int .i64 0,.int .i64 0,.int .i64 1,.int .i64 1000] 23));have R7:=ah (au.new w 23 #[.int .i64 0,.int .i64 0,.int .i64 10,.int .i64 0,.int .i64 0,.int .i64 1,.int .i64 1000]);generalize w.alloc (.cells #[.int .i64 0,.int .i64 0,.int .i64 10,.int .i64 0,.int .i64 0,.int .i64 1,.int .i64 1000] 23)=W0 at*;refine (HN.out W0).mono ?_;rintro e1 w1 ⟨hb1,⟨_,ga,Fa,rfl,hEa,hFa⟩|⟨hf,_⟩⟩
 ·have bc1:=R7.out.below hb1 R7.out.lt;obtain ⟨x0,x1,x2,x3,x4,x5,x6⟩:=rZ (a0:=0) (a1:=0) (a2:=10) (a3:=0) (a4:=0) (a5:=1) (a6:=1000) bc1;have Y7:=ah hEa;have HFA:=ah hFa;have HB1:=ah (HB0.out.trans (hb1.mono HB0.out.size));have HZ1:=ah hb1.size;clear hEa hFa hb1 bc1;go_wp2_with fail;clear x0 x1 x2 x3 x4 x5 x6;refine (HN.out w1).mono ?_;rintro e2 w2 ⟨hb2,⟨_,gb,Fb,rfl,hEb,Y8⟩|⟨hf,_⟩⟩
  ·have hT:Two w ga gb kc dK gq 0 dK gq 0 Fa Fb w2:=by
    refine ⟨HB1.out.trans (hb2.mono HB1.out.size),Y7.out.below hb2,hEb,fun k hk=>⟨?_,fun e=> ?_⟩,fun k hk=> ?_⟩
    ·have:=HFA.out k hk;have:=HB0.out.size;omega
    ·have:=Y8 k e;have:=Y7.out.lt k hk;omega
    ·have:=Y8 k hk;have:=HB1.out.size;omega
   have Rp:=hT.below ((Below.refl _ w2).alloc (aN) (.cells (bQ [104,105]).toArray 5 (2,3)));have hc1:=Lf Rp (pU kR) (Ro w2 [104,105] (by decide) (2,3));have Ot:=ah hc1;have HTA:=ah Rp;have HZW:=ah hT.lN.size;clear hT Rp hc1 hEb Y8 hb2 Y7 HFA HB1 HZ1 HN HB0 R7;go_wp2_with (go_at_call 20;refine (kZ _ _).mono ?_;rintro e1 w2 ⟨rfl,rfl⟩);refine Ot.out.mono ?_;rintro e3 w3 ⟨Fa3,rfl,Tc⟩;rw[show (aW kc dK [104,105]).2=0 from ko1];have YC:Two w ga gb kc k1 gq 0 dK gq 0 Fa3 Fb w3:=HTA.out.call Tc;have HT3:=ah YC;have HC3:=ah (EQ YC adJ (by omega) (sP kR) 0 9 (by decide) (by decide));clear Tc YC Ot HTA;go_wp2_with (go_at_call 20;refine (kZ _ _).mono ?_;rintro e1 w2 ⟨rfl,rfl⟩);refine HC3.out.mono ?_;rintro e4 w4 ⟨v4,qB,rfl,CO,hx4⟩;have I8:Two w ga gb kc k2.1 k2.2.1 0 dK gq 0 qB Fb w4:=HT3.out.call CO;rw[show (aM kc k1 gq 0 9).2.2.2=0 from congrArg Prod.snd ko2];rw[show (aM kc k1 gq 0 9).2.2.1= [160,0,104,105] from congrArg Prod.fst ko2] at hx4;obtain ⟨A4,c4,hv4,hs4⟩:=hx4.sl;have QG:v4= .slice A4 4 c4:=hv4;subst QG;have Y9:Jn w4 w Fb qB (.slice A4 4 c4) [160,0,104,105]:=hx4.swap;have HC5:=ah (lQ I8.swap (pU kR) (by omega) (sP kR) (by decide) 0 (by decide) A4 4 c4 [160,0,104,105] (Y9.arg rfl) (by omega));have Ja:=ah I8;have VI:=ah Y9;clear CO hx4 Y9 hs4 hv4 I8 HC3 HT3;go_wp2_with fail;refine HC5.out.mono ?_
   rintro e5 w5 ⟨v5,vs5,n5,Fb5,rfl,XK,qU,hl5⟩;have CY:Two w gb ga kc k3.1 k3.2.1 n5 k2.1 k2.2.1 0 Fb5 qB w5:=Ja.out.swap.call qU;rw[show (bF kc dK gq 0 [160,0,104,105]).2.2.2=0 from congrArg Prod.snd ko3];rw[show (bF kc dK gq 0 [160,0,104,105]).2.2.1= [[104,105]] from congrArg Prod.fst ko3] at hl5;have hx5:=VI.out.call qU;obtain ⟨A5,c5,hv5,_⟩:=aS hl5.1;have aif:v5= .slice A5 1 c5:=hv5;subst aif;have HC6:=ah (Gr CY.ea 0);have GA:=ah CY;have X3:=ah hx5;have HL5:=ah hl5;have HN5:=ah XK;clear qU hl5 hx5 CY hv5 HC5 Ja VI XK;go_wp2_with fail;refine HC6.out.mono ?_;rintro e6 w6 ⟨rfl,hb6⟩;rw[show tO k3.2.1 0=true from ko4];have HC7:=ah (EQ (GA.out.below hb6) adK.1 (by omega) adK.2 0 9 (by decide) (by decide));have HT6:=ah (GA.out.below hb6);have ZL:=ah (X3.out.below hb6);have HL6:=ah (HL5.out.below hb6);clear hb6 HC6 GA X3 HL5;go_wp2_with fail;refine HC7.out.mono ?_;rintro e7 w7 ⟨v7,Z8,rfl,JF,hy7⟩;have hT7:Two w gb ga kc k5.1 k5.2.1 n5 k2.1 k2.2.1 0 Z8 qB w7:=HT6.out.call JF;rw[show (aM kc k3.1 k3.2.1 0 9).2.2.2=0 from congrArg Prod.snd ko5];rw[show (aM kc k3.1 k3.2.1 0 9).2.2.1= [0,4] from congrArg Prod.fst ko5] at hy7;obtain ⟨A7,c7,hv7,_⟩:=hy7.sl;have Uy:v7= .slice A7 2 c7:=hv7;subst Uy;have Za:Jn w7 w qB Z8 (.slice A7 2 c7) [0,4]:=hy7.swap;have HC8:=ah (lQ hT7.swap UW.1 (by omega) UW.2 (by decide) 0 (by decide) A7 2 c7 [0,4] (Za.arg rfl) (by omega))
   have HT7:=ah hT7.swap;have HY7:=ah Za;have HX7:=ah (ZL.out.call JF).swap;have HL7:=ah (HL6.out.call JF).swap;clear JF hy7 Za hT7 hv7 HC7 HT6 ZL HL6;go_wp2_with fail;refine HC8.out.mono ?_;rintro e8 w8 ⟨v8,vs8,n8,Fa8,rfl,hn8,Sg,hl8⟩;have UJ:Two w ga gb kc k6.1 k6.2.1 n8 k5.1 k5.2.1 n5 Fa8 Z8 w8:=HT7.out.call Sg;rw[show (bF kc k2.1 k2.2.1 0 [0,4]).2.2.2=0 from congrArg Prod.snd ko6];rw[show (bF kc k2.1 k2.2.1 0 [0,4]).2.2.1= [] from congrArg Prod.fst ko6] at hl8;obtain ⟨A8,c8,JU,_⟩:=aS hl8.1;have aik:v8= .slice A8 0 c8:=JU;subst aik;have HC9:=ah (lQ UJ UX.1 (by omega) UX.2 (by unfold maxLen;omega) 0 (by decide) none 0 0 [] (fun W2 _=>Y6 W2) (by omega));have HT8:=ah UJ;have HY8:=ah (HY7.out.call Sg);have HX8:=ah (HX7.out.call Sg);have HL8:=ah (HL7.out.call Sg);have HN8:=ah hn8;clear Sg hl8 UJ JU HC8 HT7 HX7 HL7 HY7 hn8;go_wp2_with fail;refine HC9.out.mono ?_;rintro e9 w9 ⟨v9,ZO,n9,Fa9,rfl,hn9,xI,P8⟩;have Z0:Two w ga gb kc k7.1 k7.2.1 n9 k5.1 k5.2.1 n5 Fa9 Z8 w9:=HT8.out.call xI;rw[show (bF kc k6.1 k6.2.1 0 []).2.2.2=5 from congrArg Prod.snd ko7];have Rp:=Z0.below ((Below.refl _ w9).alloc (aN) (.cells (bQ [128]).toArray 5));have zN:=ah (lQ Rp UY.1 (by omega) UY.2 (by have:=HN8.out;unfold maxLen;omega) 0 (by decide) (some ⟨w9.heap.size,0,none⟩) 1 1 [128] (Mj Z0.ea.lt [128] (by decide)) (by omega));have HTA:=ah Rp
   have HYA:=ah ((HY8.out.call xI).below ((Below.refl _ w9).alloc (aN) (.cells (bQ [128]).toArray 5)));have Yl:=ah ((HX8.out.call xI).below ((Below.refl _ w9).alloc (aN) (.cells (bQ [128]).toArray 5)));have OA:=ah ((HL8.out.call xI).below ((Below.refl _ w9).alloc (aN) (.cells (bQ [128]).toArray 5)));have HN9:=ah hn9;clear xI P8 Z0 Rp HC9 HT8 HX8 HL8 HY8 hn9;go_wp2_with fail;refine zN.out.mono ?_;rintro eA wA ⟨vA,vsA,nA,FaA,rfl,hnA,hRA,hlA⟩;have Rp:Two w ga gb kc k8.1 k8.2.1 nA k5.1 k5.2.1 n5 FaA Z8 wA:=HTA.out.call hRA;rw[show (bF kc k7.1 k7.2.1 0 [128]).2.2.2=5 from congrArg Prod.snd ko8];have Zb:=Rp.below ((Below.refl _ wA).alloc (aN) (.cells (bQ [0,20]).toArray 5));have Z9:=ah (lQ Zb UZ.1 (by omega) UZ.2 (by have:=HN8.out;have:=HN9.out;unfold maxLen;omega) 0 (by decide) (some ⟨wA.heap.size,0,none⟩) 2 2 [0,20] (Mj Rp.ea.lt [0,20] (by decide)) (by omega));have HTB:=ah Zb;have HYB:=ah ((HYA.out.call hRA).below ((Below.refl _ wA).alloc (aN) (.cells (bQ [0,20]).toArray 5)));have HXB:=ah ((Yl.out.call hRA).below ((Below.refl _ wA).alloc (aN) (.cells (bQ [0,20]).toArray 5)));have HLB:=ah ((OA.out.call hRA).below ((Below.refl _ wA).alloc (aN) (.cells (bQ [0,20]).toArray 5)));clear hRA hlA Rp Zb zN HTA Yl OA HYA;go_wp2_with fail;refine Z9.out.mono ?_;rintro eB wB ⟨vB,vsB,nB,FaB,rfl,hnB,hRB,hlB⟩;have Zb:Two w ga gb kc k9.1 k9.2.1 nB k5.1 k5.2.1 n5 FaB Z8 wB:=HTB.out.call hRB
   rw[show (bF kc k8.1 k8.2.1 0 [0,20]).2.2.2=6 from congrArg Prod.snd ko9];have hxB:=HXB.out.call hRB;have hyB:=HYB.out.call hRB;have hlB:=HLB.out.call hRB;obtain ⟨Ax,cx,hvx,hsx⟩:=hxB.sl;cases hvx;obtain ⟨Ay,cy,hvy,hsy⟩:=hyB.sl;cases hvy;obtain ⟨Al,cl,hvl,hsl,_⟩:=aS hlB.1;cases hvl;obtain ⟨vi,hvi,hbi⟩:=hlB.2.2 0 [104,105] rfl;obtain ⟨Ai,ci,ail,hsi⟩:=hbi.sl;subst ail;obtain ⟨al,hal,apf,hcl⟩:=hsl.at_ (by decide);subst hal;have cl0:wB.cell? al=some (.slice Ai 2 ci):=by have:=hcl 0 _ hvi;simpa[Addr.add] using this
   have q1:(convert 31 9 (.slice A4 4 c4)).run Tryz.prog wB= .ok (.string ⟨#[160,0,104,105]⟩) wB:=vI hsx;have q2:(convert 31 9 (.slice A7 2 c7)).run Tryz.prog wB= .ok (.string ⟨#[0,4]⟩) wB:=vI hsy;have q3:(convert 31 9 (.slice Ai 2 ci)).run Tryz.prog wB= .ok (.string ⟨#[104,105]⟩) wB:=vI hsi;have ZE:=ah (jc Zb.ea aie.1);have HBL:=ah Zb.lN;clear hRB Zb hxB hyB hlB hbi hsl hsx hsy hsi hcl hvi Z9 HTB HXB HLB HYB;go_wp2_with (first|(go_at_call 20;refine (kZ _ _).mono ?_;rintro e1 w2 ⟨rfl,rfl⟩)|(go_at_call 25;refine ZE.out.mono ?_;rintro eC wC ⟨rfl,hbC⟩;rw[show k9.1.done=1 from aid]));go_ret;exact ⟨rfl,HBL.out.trans (hbC.mono HBL.out.size)⟩
  ·exact absurd hf (by decide)
 ·exact absurd hf (by decide)
end
end Go.Proofs.YtbhiklnljiehiaaGreat
