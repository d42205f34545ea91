/- amrecv: Receive: errors are recovered; bounds of what is received. amrecv: take. -/
import Derived.Test.YtiecgfahidpldaaGreatM0af
import Derived.Test.YtiecgfahidpldaaGreatM0ah
import Derived.Test.YtiecgfahidpldaaGreatM0ak
import Derived.Test.YtiecgfahidpldaaGreatM0al
import Derived.WideLaws
namespace Go.Proofs.YtiecgfahidpldaaGreat
section
open Go.RowKit Go.Shelf
theorem tZ (bo be:Nat) (w:World):
 CallsD Tryz.prog 32 #[.pointer (some ⟨bo,0,none⟩),.pointer (some ⟨be,0,none⟩)] .returning w fun e u' w'=>e= .returned (.tuple #[])∧u'= .returning∧w=w':=by
 have hnn:=run_eql_nil_nil (P:=Tryz.prog) w (t:=20) (by kernel_rfl);refine callsD_of_wpS Tryz.func32 rfl fun c₀ cs hu=> ?_
 apply wpS_seq;apply wpS_region;generalize hQ:Exit.thenS _ _=Q;simp[wpOpsS,go_sem,recoverD,hu,Tryz.ntmps32];subst hQ;simp only[Exit.thenS];refine wpS_of_wp ?_;change Code.wp _ _ (iK Tryz.prog Tryz.f32 c₀ cs (c₀::cs) _) {tmps:= #[.pointer (some ⟨bo,0,none⟩),.pointer (some ⟨be,0,none⟩),.nilIface,undef,undef,.nilIface,undef,undef,undef,undef,undef,undef,undef,undef,undef,undef,undef],defers:= []} w;go_wp2;cases c₀
 simp_all [iK,bodyPostS,results,Tryz.results32]
set_option maxHeartbeats 800000 in
set_option maxRecDepth 100000 in
theorem qc (bo be:Nat) (er:Int) (v0 v1:Value) (w:World) (hp:av w bo 34 #[v0]) (he:av w be 35 #[v1]) (hne:be≠bo):
 CallsD Tryz.prog 32 #[.pointer (some ⟨bo,0,none⟩),.pointer (some ⟨be,0,none⟩)] (.panicking [{v:= .iface 35 (.int .i64 er),recovered:=false}]) w fun e u' w'=>e= .returned (.tuple #[])∧u'= .panicking [{v:= .iface 35 (.int .i64 er),recovered:=true}]∧
  av w' bo 34 #[.slice none 0 0]∧av w' be 35 #[.int .i64 er]∧Kept (fun k _=>k=bo∨k=be) w w':=by
 have hnn:=run_eql_held_nil (P:=Tryz.prog) w 20 35 (.int .i64 er) (by kernel_rfl);have O0:=jw er w;refine callsD_of_wpS Tryz.func32 rfl fun c₀ cs hu=> ?_
 apply wpS_seq;apply wpS_region;generalize hQ:Exit.thenS _ _=Q;simp[wpOpsS,go_sem,recoverD,hu,Tryz.ntmps32];subst hQ;simp only[Exit.thenS];refine wpS_of_wp ?_;change Code.wp _ _ (iK Tryz.prog Tryz.f32 c₀ cs _ _) {tmps:= #[.pointer (some ⟨bo,0,none⟩),.pointer (some ⟨be,0,none⟩),.iface 35 (.int .i64 er),undef,undef,.iface 35 (.int .i64 er),undef,undef,undef,undef,undef,undef,undef,undef,undef,undef,undef],defers:= []} w;have c0:=hp.cell 0;have f0:=hp.frozen 0;have c1:=he.cell 0;have f1:=he.frozen 0;simp at c0 c1;go_wp2;refine ⟨rfl,_,rfl,.tuple #[],by simp[results,Tryz.results32],rfl,rfl,?_,?_,?_⟩
 ·have:=(hp.aF 0 (.slice none 0 0)).far (p:=⟨be,0,none⟩) (fun e=>hne e.symm) (.int .i64 er);simpa using this
 ·have:=(he.far (p:=⟨bo,0,none⟩) hne (.slice none 0 0)).aF 0 (.int .i64 er);simpa using this
 ·exact ((Kept.refl _ w).setCell (p:=⟨bo,0,none⟩) (fun _ _=> .inl rfl) _).setCell (p:=⟨be,0,none⟩) (fun _ _=> .inr rfl) _
theorem mP {Q:Ending→World→Prop} (a b:Nat) (er:Int) (W:World) (T:Array Value) (v0 v1:Value) (h6:T[6]? =some (.pointer (some ⟨a,0,none⟩))) (h7:T[7]? =some (.pointer (some ⟨b,0,none⟩))) (hne:b≠a)
 (hp:av W a 34 #[v0]) (he:av W b 35 #[v1]) (hQ:∀W',Kept (fun k _=>k=a∨k=b) W W'→Q (.returned (.tuple #[.slice none 0 0,.int .i64 er])) W'):
 bodyPostD Tryz.prog Tryz.f8 Q (.panic [{v:= .iface 35 (.int .i64 er),recovered:=false}]) {tmps:=T,defers:= [{target:= .fn (.func 32) #[.pointer (some ⟨a,0,none⟩),.pointer (some ⟨b,0,none⟩)],args:= #[]}]} W:=by
 refine leaves_cons (f:=32) (args:= #[.pointer (some ⟨a,0,none⟩),.pointer (some ⟨b,0,none⟩)]) (by simp) (by simp[go_sem]) ?_;refine (qc _ _ er _ _ W hp he hne).mono ?_;rintro e u' w'' ⟨rfl,rfl,hp',he',hk⟩;have c0:=hp'.cell 0;have c1:=he'.cell 0;simp at c0 c1;refine ⟨.tuple #[.slice none 0 0,.int .i64 er],?_,hQ _ hk⟩;simp[results,Tryz.results8,go_sem,h6,h7,c0,c1]
theorem gu {Q:Ending→World→Prop} (a b:Nat) (W:World) (T:Array Value) (v0 v1:Value) (h6:T[6]? =some (.pointer (some ⟨a,0,none⟩))) (h7:T[7]? =some (.pointer (some ⟨b,0,none⟩)))
 (hp:av W a 34 #[v0]) (he:av W b 35 #[v1]) (hQ:Q (.returned (.tuple #[v0,v1])) W):
 bodyPostD Tryz.prog Tryz.f8 Q .ret {tmps:=T,defers:= [{target:= .fn (.func 32) #[.pointer (some ⟨a,0,none⟩),.pointer (some ⟨b,0,none⟩)],args:= #[]}]} W:=by
 refine leaves_cons (f:=32) (args:= #[.pointer (some ⟨a,0,none⟩),.pointer (some ⟨b,0,none⟩)]) (by simp) (by simp[go_sem]) ?_;refine (tZ _ _ _).mono ?_;rintro e9 u9 w9 ⟨rfl,rfl,rfl⟩;have c0:=hp.cell 0;have c1:=he.cell 0;simp at c0 c1;refine ⟨.tuple #[v0,v1],?_,hQ⟩;simp[results,Tryz.results8,go_sem,h6,h7,c0,c1]
structure AF (x:fu):Prop where
 sn:x.sn≤1023
 len:x.ps.length≤64
 pos:1≤x.ps.length
 sum:x.off+aB x.ps≤32767
theorem oK {x:fu} (h:fI (x.sn:Nat) x.sg x.la (x.off:Nat) x.ps=true) (h0:x.sg=false→x.off=0):AF x:=by
 unfold fI iq at h;simp only[List.all_cons,List.all_nil,Bool.and_true,id,Bool.and_eq_true,decide_eq_true_eq] at h;obtain ⟨h1,h2,h3⟩:=h;unfold iV fH at h2;simp only[List.all_cons,List.all_nil,Bool.and_true,id,Bool.and_eq_true,decide_eq_true_eq] at h2;obtain ⟨⟨h4,h5⟩,_,_,h6⟩:=h2;refine ⟨by omega,h5,h4,?_⟩;cases hs:x.sg with
 |false=>rw[h0 hs];omega
 |true=>
  rw[hs] at h3;simp only[if_true,decide_eq_true_eq] at h3;omega
theorem uK {bs:List UInt8} {x:fu} (h:nO bs= .inr x):AF x:=by
 unfold nO at h;split at h
 ·cases h
 ·split at h
  ·cases h
  ·split at h
   ·split at h
    ·cases h
    ·split at h
     ·cases h
     ·split at h
      ·rename_i hv;cases h;exact oK hv (fun e=>by cases e)
      ·cases h
   ·split at h
    ·cases h
    ·split at h
     ·rename_i hv;cases h;exact oK hv (fun _=>rfl)
     ·cases h
theorem wC (p:Sp) (x:fu) (hl:p.da.length=p.fl.length):(dz p x).da.length=(dz p x).fl.length∧(dz p x).fl.length=max p.fl.length (jB x):=by
 unfold dz;dsimp only;have h:=jF (dh x.s x.e x.ps.length 0 x.ps) x.off (fT (jB x) p.fl,ja (jB x) p.da);rw[h.1,h.2];dsimp only;unfold fT ja;simp only[List.length_append,List.length_replicate];omega
theorem kP.take {p:Sp} (h:kP p) {x:fu} (hx:AF x):kP (dz p x):=by
 have hl:=wC p x h.ll;have he:jB x≤32767:=hx.sum;have h1:=h.le;refine ⟨hl.1,by omega,fun k hk=> ?_⟩;have hk2:(if vH x=true then some (jB x) else p.size)=some k:=hk;split at hk2
 ·cases hk2;exact he
 ·exact h.sz k hk2
theorem Gb:kP qV:=⟨rfl,by simp[qV],fun k hk=>by simp[qV] at hk⟩
theorem aM.get {st:Rc} (ho:aM st) (k:Nat):kP (dA st k):=by
 unfold dA;cases hm:st.m k with
 |none=>exact Gb
 |some p=>exact (ho.m k p hm).2.2
theorem aM.AJ {st:Rc} (ho:aM st) {x:fu} (hx:AF x) (hp:aI st x.sn<512):aM (iB st x (dA st x.sn)):=by
 have h1:=hx.sn;have hg:=(ho.get x.sn).take hx;refine ⟨ho.n1,jJ _ _ _ ho.n2,?_,ho.n4,fun k q hk=> ?_,ho.op,ho.t1,ho.t2⟩
 ·unfold iB;dsimp only;split
  ·unfold bH;omega
  ·exact ho.n3
 ·have hk2:(if k=x.sn then some (dz (dA st x.sn) x) else st.m k)=some q:=hk;split at hk2
  ·rename_i e;cases hk2;subst e;exact ⟨h1,hp,hg⟩
  ·exact ho.m k q hk2
theorem aM.oL:∀(f:Nat) {st:Rc},aM st→aM (bu f st).1
 |0,_,ho=>ho
 |f+1,st,ho=>by
  unfold bu;cases hm:st.m st.next with
  |none=>exact ho
  |some p=>
   dsimp only;split
   ·exact aM.oL f (ho.one hm)
   ·exact ho
theorem aM.KI {st:Rc} (ho:aM st) (c:Cf):aM (vI c st):=by
 unfold vI;dsimp only;have h1:aM {st with ro:=false}:=⟨ho.n1,ho.n2,ho.n3,ho.n4,ho.m,ho.op,ho.t1,ho.t2⟩;generalize hs:(if aI st st.bX=0∨512<aI st st.bX then {st with ro:=false} else st)=s1;have h2:aM s1:=by
  rw[←hs];split
  ·exact h1
  ·exact ho
 split
 ·exact h2.waits c
 ·exact h2
theorem aM.due {st:Rc} (ho:aM st) (b:Bool):aM {st with due:=b}:=⟨ho.n1,ho.n2,ho.n3,ho.n4,ho.m,ho.op,ho.t1,ho.t2⟩
theorem aM.recv {st:Rc} (ho:aM st) (c:Cf) {now:Int} (hn:now≤9223372036854775807) (bs:List UInt8):aM (bI c st now bs).1:=by
 have hg:=ho.goes c hn;unfold bI;cases hd:nO bs with
 |inl er=>exact hg
 |inr x=>
  have hx:=uK hd;unfold vJ;dsimp only;split
  ·exact hg.due _
  ·rename_i hp;split
   ·exact hg
   ·exact ((hg.AJ hx (by omega)).oL 1024).KI c
section
variable {w w' W W' W2:World} {T T':Nat→Nat} {g M n:Nat} {c:Cf} {st:Rc} {vo v:Value}
theorem bO.stored {sp':Sp} {vf vd eF eu:Value} {b sn n2:Nat} {F:Nat→Option Value} (h:bO W T g M n c st vo) (hbl:b<W.heap.size)
 (hb:T b=0∨T b=3*sn+4) (hf:∀k,vf.ownBlock=some k→T k=3*sn+5) (hd:∀k,vd.ownBlock=some k→T k=3*sn+6)
 (hS:gG W' b sp' eF eu) (hf':∀k,eF.ownBlock=some k→vf.ownBlock=some k∨W.heap.size≤k) (hd':∀k,eu.ownBlock=some k→vd.ownBlock=some k∨W.heap.size≤k)
 (hk:Kept (Br b vf vd) W W') (Gc:∀k,(st.m k=none→F k=none)∧∀p,st.m k=some p→∃b vf vd,F k=some (.pointer (some ⟨b,0,none⟩))∧gG W b p vf vd∧T b=3*k+4∧(∀j,vf.ownBlock=some j→T j=3*k+5)∧(∀j,vd.ownBlock=some j→T j=3*k+6))
 (hF2:bY Tryz.prog 3 W2 M n2 (pM F sn (some (.pointer (some ⟨b,0,none⟩))))) (hg:W'.grownBy W2 (some M)):
 ∃T',bO W2 T' g M n2 c {st with m:=dZ st.m sn (some sp')} vo∧(∀k,k<W.heap.size→k≠b→T' k=T k)∧(T b≠0→T' b=T b):=by
 have hz:=hk.size;have hz2:=hg.size;have Ee:=h.tM;have hrow:=iL hS.fr hS.dr (by decide);have hzero:∀k,W.heap.size≤k→T k=0:=fun k hk=>by
  rcases Nat.eq_zero_or_pos (T k) with e|e
  ·exact e
  ·have:=h.lt k (by omega);omega
 have key:∀j,T j≠0→(T j<3*sn+4∨3*sn+6<T j)→T j≠2→W2.heap[j]? =W.heap[j]? :=fun j h0 h1 h2=>by
  have hl:=h.lt j h0;have e1:W2.heap[j]? =W'.heap[j]? :=hg.block j (by omega) (fun e=>by cases e;exact h2 Ee);have e2:W.heap[j]? =some W.heap[j]:=Array.getElem?_eq_getElem hl;rw[e1,e2];refine hk.same j _ e2 fun hm=> ?_
  rcases hm with rfl|e|e
  ·omega
  ·have:=hf j e;omega
  ·have:=hd j e;omega
 have Dq:∀j,j<W'.heap.size→j≠M→W2.heap[j]? =W'.heap[j]? :=fun j hl hM=>hg.block j hl (fun e=>by cases e;exact hM rfl)
 have KJ:∀j,j=b∨eF.ownBlock=some j∨eu.ownBlock=some j→j≠M:=fun j hj e=>by
  subst e;rcases hj with rfl|e|e
  ·omega
  ·rcases hf' _ e with e|e
   ·have:=hf _ e;omega
   ·have:=hzero _ e;omega
  ·rcases hd' _ e with e|e
   ·have:=hd _ e;omega
   ·have:=hzero _ e;omega
 refine ⟨fun k=>if T k≠0 then T k else if k=b then 3*sn+4 else if W.heap.size≤k∧eF.ownBlock=some k then 3*sn+5 else if W.heap.size≤k∧eu.ownBlock=some k then 3*sn+6 else 0,?_,?_,?_⟩
 ·have hT:∀k,T k≠0→(if T k≠0 then T k else if k=b then 3*sn+4 else if W.heap.size≤k∧eF.ownBlock=some k then 3*sn+5 else if W.heap.size≤k∧eu.ownBlock=some k then 3*sn+6 else 0)=T k:=fun k hh=>if_pos hh
  refine ⟨?_,(hT g (by rw[h.tg];omega)).trans h.tg,(hT M (by omega)).trans Ee,fun k hh=> ?_,?_,fun k e=> ?_,pM F sn (some (.pointer (some ⟨b,0,none⟩))),hF2,fun k=>⟨fun hm=> ?_,fun q hq=> ?_⟩⟩
  ·exact (key g (by rw[h.tg];omega) (by rw[h.tg];omega) (by rw[h.tg];omega)).trans h.blk
  ·by_cases h0:T k≠0
   ·have:=h.lt k h0;omega
   ·rw[if_neg h0] at hh;by_cases hkb:k=b
    ·omega
    ·rw[if_neg hkb] at hh;by_cases h1:W.heap.size≤k∧eF.ownBlock=some k
     ·have:=(hS.fr.lt k h1.2).2;omega
     ·rw[if_neg h1] at hh;by_cases h2:W.heap.size≤k∧eu.ownBlock=some k
      ·have:=(hS.dr.lt k h2.2).2;omega
      ·rw[if_neg h2] at hh;exact absurd rfl hh
  ·exact aN h.CS fun k e=>by
    have h3:=h.od k e;exact key k (by omega) (by omega) (by omega)
  ·have h3:=h.od k e;exact (hT k (by omega)).trans h3
  ·have hm2:(if k=sn then some sp' else st.m k)=none:=hm;split at hm2
   ·cases hm2
   ·rename_i hne;show (if k=sn then _ else F k)=none
    rw[if_neg hne];exact (Gc k).1 hm2
  ·have hq2:(if k=sn then some sp' else st.m k)=some q:=hq;split at hq2
   ·rename_i he;cases hq2;subst he;refine ⟨b,eF,eu,if_pos rfl,hS.stay (Dq b (by omega) (KJ b (.inl rfl))) (fun j hj=>Dq j (hS.fr.lt j hj).2 (KJ j (.inr (.inl hj)))) (fun j hj=>Dq j (hS.dr.lt j hj).2 (KJ j (.inr (.inr hj)))),?_,fun j hj=> ?_,fun j hj=> ?_⟩
    ·rcases hb with e|e
     ·rw[if_neg (by omega),if_pos rfl]
     ·exact (hT b (by omega)).trans e
    ·rcases hf' j hj with e|e
     ·have h5:=hf j e;exact (hT j (by omega)).trans h5
     ·rw[if_neg (by have:=hzero j e;omega),if_neg (by omega),if_pos ⟨e,hj⟩]
    ·rcases hd' j hj with e|e
     ·have h5:=hd j e;exact (hT j (by omega)).trans h5
     ·rw[if_neg (by have:=hzero j e;omega),if_neg (by omega),if_neg,if_pos ⟨e,hj⟩];rintro ⟨_,e2⟩;rcases hrow with e3|e3
      ·rw[e3] at e2;cases e2
      ·exact e3 (e2.trans hj.symm)
   ·rename_i hne;obtain ⟨b2,Qy,Qz,e1,hs2,t1,t2,t3⟩:=(Gc k).2 q hq2;refine ⟨b2,Qy,Qz,(if_neg hne).trans e1,hs2.stay (key b2 (by omega) (by omega) (by omega)) (fun j hj=> ?_) (fun j hj=> ?_),(hT b2 (by omega)).trans t1,fun j hj=> ?_,fun j hj=> ?_⟩
    ·have:=t2 j hj;exact key j (by omega) (by omega) (by omega)
    ·have:=t3 j hj;exact key j (by omega) (by omega) (by omega)
    ·have:=t2 j hj;exact (hT j (by omega)).trans this
    ·have:=t3 j hj;exact (hT j (by omega)).trans this
 ·intro k hl hkb;by_cases h0:T k≠0
  ·exact if_pos h0
  ·show (if T k≠0 then T k else _)=T k
   rw[if_neg h0,if_neg hkb,if_neg (by omega),if_neg (by omega)];omega
 ·intro h0;exact if_pos h0
end
end
section
open Go.RowKit Go.Shelf
attribute [local go_sem] Oper.semAt_some
theorem cZ {c p q:Prop} [Decidable c] (h:¬c) (hq:q):if c then p else q:=by rw[if_neg h];exact hq
def mQ (w:World) (b:Nat) (sp:Sp) (vf vd:Value) (x:fu) (e:Ending) (w':World):Prop:=
 if qW sp x=true then e=pO 9∧Below w.heap.size w w'
 else e= .returned (.tuple #[])∧∃eF eu,gG w' b (dz sp x) eF eu∧(∀k,eF.ownBlock=some k→vf.ownBlock=some k∨w.heap.size≤k)∧(∀k,eu.ownBlock=some k→vd.ownBlock=some k∨w.heap.size≤k)∧Kept (Br b vf vd) w w'
set_option maxRecDepth 100000 in
set_option maxHeartbeats 40000000 in
theorem wD (b:Nat) (sp:Sp) (vf vd:Value) (x:fu) (A:Option Addr) (c:Nat) (vs:List Value) (w:World) (h:gG w b sp vf vd) (ho:kP sp) (hs:eH w w.heap.size A x.ps.length c vs x.ps) (hlen:x.ps.length≤64) (hpos:1≤x.ps.length) (hsum:x.off+aB x.ps≤32767)
 (hst:∀W,Kept (Br b vf vd) w W→eH W W.heap.size A x.ps.length c vs x.ps):
 Calls Tryz.prog 36 #[.pointer (some ⟨b,0,none⟩),.agg (bC x.sn x.po x.sg x.la x.off x.s x.e A x.ps.length c)] w (mQ w b sp vf vd x):=by
 obtain ⟨sn,po,sg,la,off,s,e,ps⟩:=x;dsimp only at hs hlen hpos hsum hst ⊢;have bp:=(av.new w 86 #[.pointer (some ⟨b,0,none⟩)]).alloc (.cells (bC sn po sg la off s e A ps.length c) 72);have bx:=av.new (w.alloc (.cells #[.pointer (some ⟨b,0,none⟩)] 86)) 72 (bC sn po sg la off s e A ps.length c);have hB:=((Below.refl w.heap.size w).alloc (Nat.le_refl _) (.cells #[.pointer (some ⟨b,0,none⟩)] 86)).alloc (by simp) (.cells (bC sn po sg la off s e A ps.length c) 72);simp only[World.size_alloc] at bx;have Nz:=Lib.hid (hst w (Kept.refl _ w));have HB:=Lib.hid hB;have HST:=Lib.hid hst;have HO:=Lib.hid ho;have tq:=Lib.hid hlen;have QA:=Lib.hid hpos;have QB:=Lib.hid hsum;have HH:=Lib.hid h;have Gd:∀p∈ps,p.length≤1099511627776:=fun p hp=>by have:=nE hp;omega
 have Gf:=Lib.hid Gd;obtain ⟨fin,hfin⟩:∃fin,(!sg||la)=fin:=⟨_,rfl⟩
 obtain ⟨en,hen⟩:∃en,off+aB ps=en:=⟨_,rfl⟩
 have hbad:qW sp ⟨sn,po,sg,la,off,s,e,ps⟩=match sp.size with
  |some k=> !(decide (en≤k)&&(!fin||decide (en=k)))
  |none=>fin&&(decide (en<sp.fl.length)&&(sp.fl.drop en).any (fun f=>f.1)):=by
  unfold qW jB vH;dsimp only;rw[hen,hfin];cases sp.size<;>rfl
 have HBAD:=Lib.hid hbad;have tX:=Lib.hid hfin;have Iz:=Lib.hid hen;have hbl:=h.blk.lt;clear hB hst ho hlen hpos h hs hfin Gd hen hbad;unfold bC at*;refine (callsIn_wide (n:=5)).1 ?_;refine callsIn_of_wp_marks Tryz.func36 rfl trivial ?_ rfl;simp only[Tryz.ntmps36,List.size_toArray,List.length_cons,List.length_nil,Nat.reduceAdd,Nat.reduceSub,Array.replicate_succ,Array.replicate_zero,List.push_toArray,List.append_toArray,List.nil_append,List.cons_append];refine wpIn_wide.2 ?_;obtain ⟨x0,x1,x2,x3,x4,x5,x6,x7⟩:=bx.eight;have y0:=bp.cell 0;simp at y0;go_upto_region 1 with (fail)
 generalize (w.alloc (.cells #[.pointer (some ⟨b,0,none⟩)] 86)).alloc (.cells #[.int .i64 sn,.bool po,.bool sg,.bool la,.int .i64 off,.bool s,.bool e,.slice A ps.length c] 72)=w0 at*;go_cut [4] from 11 to 17 (fun s4 wx=>s4= .bool fin∧wx=w0)
 case first=>
  have hfin:=tX.out;cases sg with
  |true=>
   obtain rfl:la=fin:=by simpa using hfin
   clear hfin;go_wp2_with fail;go_meet;exact ⟨rfl,rfl⟩
  |false=>
   obtain rfl:true=fin:=by simpa using hfin
   clear hfin;go_wp2_with fail;go_meet;exact ⟨rfl,rfl⟩
 case rest=>
 obtain ⟨rfl,rfl⟩:=hcut;have Gg:w.heap.size+1<wc.heap.size:=bx.lt;have hS0:=(Nz.out.below HB.out).more HB.out.size;have hsz:=lH s e A ps.length c vs ps wc.drew hS0.drew' (by have:=tq.out;omega) Gf.out;have HZ:=Lib.hid hsz;have rZ:=Lib.hid hS0;clear hsz hS0 Gf;have hen:=Iz.out;have hwrap:IntKind.i64.wrap ((off:Int)+aB ps)=(en:Int):=by rw[IntWalk.i64_in _ (by omega)];omega
 generalize hSS:aB ps=S at*;have Bf:=Lib.hid hSS;clear hSS;have vG:w.heap.size+1<wc.drew.heap.size:=Gg;go_upto_region 2 with (fail)
 go_cut [5] from 18 to 23 (fun s5 wx=>s5= .int .i64 (en:Nat)∧Below wc.heap.size wc wx)
 case first=>
  go_region_held3 (fun w'=>w'.cell? ⟨w.heap.size+1,4,none⟩=some (.int .i64 off)∧w'.cell? ⟨w.heap.size+1,5,none⟩=some (.bool s)∧w'.cell? ⟨w.heap.size+1,6,none⟩=some (.bool e)∧w'.cell? ⟨w.heap.size+1,7,none⟩=some (.slice A ps.length c))
   (first|(refine ⟨(hb2.cell (p:=⟨w.heap.size+1,4,none⟩) vG).trans x4,(hb2.cell (p:=⟨w.heap.size+1,5,none⟩) vG).trans x5,(hb2.cell (p:=⟨w.heap.size+1,6,none⟩) vG).trans x6,(hb2.cell (p:=⟨w.heap.size+1,7,none⟩) vG).trans x7⟩)|go_keep)
   ((go_at_call 72;refine HZ.out.mono ?_;rintro e2 w2 ⟨rfl,hb2⟩))
  go_wp2_with fail;go_meet;exact ⟨rfl,((Below.refl _ wc).drew).trans hb2⟩
 case rest=>
 obtain ⟨rfl,hb2⟩:=hcut;generalize wc=w3 at*
 replace bp:=bp.below hb2 bp.lt
 replace bx:=bx.below hb2 bx.lt
 have hB3:=HB.out.trans (hb2.mono HB.out.size);have hh3:gG w3 b sp vf vd:=HH.out.stay (hB3.block b hbl) (fun k hk=>hB3.block k (HH.out.fr.lt k hk).2) (fun k hk=>hB3.block k (HH.out.dr.lt k hk).2);clear x0 x1 x2 x3 x4 x5 x6 x7 y0 hb2 HB Gg vG HZ rZ hwrap hen;have NA:=Lib.hid bp;have BM:=Lib.hid bx;have HB3:=Lib.hid hB3;have y0:=bp.cell 0;simp at y0;obtain ⟨z0,z1,z2⟩:w3.cell? ⟨b,0,none⟩=some vf∧w3.cell? ⟨b,1,none⟩=some vd∧w3.cell? ⟨b,2,none⟩=some (.int .i64 (aJ sp)):=⟨hh3.blk.cell 0,hh3.blk.cell 1,hh3.blk.cell 2⟩;have hle:=HO.out.le;have Gh:=Lib.hid hh3;clear bp bx hB3 hh3;have Gi:∀wx,qW sp ⟨sn,po,sg,la,off,s,e,ps⟩=true→Below w3.heap.size w3 wx→mQ w b sp vf vd ⟨sn,po,sg,la,off,s,e,ps⟩ (pO 9) wx:=fun wx h1 h2=>by
  unfold mQ;rw[if_pos h1];exact ⟨rfl,HB3.out.trans (h2.mono HB3.out.size)⟩
 have AL:=Lib.hid Gi;clear Gi;go_upto_if 28 with (fail)
 go_cut [] from 24 to 66 (fun wx=>qW sp ⟨sn,po,sg,la,off,s,e,ps⟩=false∧Below w3.heap.size w3 wx)
 case first=>
  cases hsz:sp.size with
  |some k=>
   have hbad:=HBAD.out;rw[hsz] at hbad;dsimp only at hbad;have hsi:aJ sp=(k:Int):=by unfold aJ;rw[hsz]
   rw[hsi] at z2;rw[show decide (aJ sp≥0)=true by rw[hsi];simp];have hk:=HO.out.sz k hsz;clear hsz hsi;by_cases h1:en≤k
   ·rw[decide_eq_true h1,Bool.true_and] at hbad;cases fin with
    |false=>
     have HB2:=Lib.hid hbad;clear hbad;go_wp2_with (go_at_call 34;refine (gH _ _).mono ?_;rintro e1 w4 ⟨rfl,rfl⟩);go_meet;exact ⟨HB2.out,Below.refl _ _⟩
    |true=>
     by_cases h2:en=k
     ·have HB2:=Lib.hid hbad;have KL:=Lib.hid h2;have hne:((en:Int)==(k:Int))=true:=by simp;omega
      clear hbad h2;go_wp2_with (go_at_call 34;refine (gH _ _).mono ?_;rintro e1 w4 ⟨rfl,rfl⟩);go_meet;exact ⟨by rw[HB2.out,KL.out];simp,Below.refl _ _⟩
     ·have HB2:=Lib.hid hbad;have KL:=Lib.hid h2;have hne:((en:Int)==(k:Int))=false:=by simp;omega
      clear hbad;go_wp2_with (go_at_call 34;refine (fE _ _).mono ?_;rintro e1 w4 ⟨rfl,rfl⟩);exact AL.out _ (by rw[HB2.out];simp[KL.out]) (Below.refl _ _)
   ·have HB2:=Lib.hid hbad;have QC:=Lib.hid h1;clear hbad;go_wp2_with (go_at_call 34;refine (fE _ _).mono ?_;rintro e1 w4 ⟨rfl,rfl⟩);exact AL.out _ (by rw[HB2.out,decide_eq_false QC.out];rfl) (Below.refl _ _)
  |none=>
   have hbad:=HBAD.out;rw[hsz] at hbad;dsimp only at hbad;have hsi:aJ sp= -1:=by unfold aJ;rw[hsz]
   rw[hsi] at z2;rw[show decide (aJ sp≥0)=false by rw[hsi];rfl];clear hsz hsi;obtain ⟨Af,cf,rfl,hfs⟩:=fA.cr Gh.out.fr;have hcap:=hfs.cap;have hmx:=hfs.mx;cases fin with
   |false=>
    have HB2:=Lib.hid hbad;clear hbad hfs;go_wp2_with fail;go_meet;exact ⟨HB2.out,Below.refl _ _⟩
   |true=>
    by_cases h1:en<sp.fl.length
    ·rw[decide_eq_true h1,Bool.true_and,Bool.true_and] at hbad;obtain ⟨gf,of,rfl,hgf,_⟩:=hfs.at_ (by omega);have hq:=xP (hfs.drop h1) (by omega);generalize (sp.fl.drop en).any (fun f=>f.1)=got at*;have HB2:=Lib.hid hbad;have HQ:=Lib.hid hq;have d1:decide (en<sp.fl.length)=true:=decide_eq_true h1;have h1':(en:Int)<(sp.fl.length:Int):=by omega
     clear hbad hfs hq;cases got with
     |false=>
      go_wp2_with (first
       |(go_at_call 83;refine HQ.out.mono ?_;rintro e1 w4 ⟨rfl,hb4⟩)
       |(go_at_call 34;refine (gH _ _).mono ?_;rintro e1 w4 ⟨rfl,rfl⟩))
      go_meet;exact ⟨HB2.out,hb4⟩
     |true=>
      go_wp2_with (first
       |(go_at_call 83;refine HQ.out.mono ?_;rintro e1 w4 ⟨rfl,hb4⟩)
       |(go_at_call 34;refine (fE _ _).mono ?_;rintro e1 w5 ⟨rfl,rfl⟩))
      exact AL.out _ HB2.out hb4
    ·rw[decide_eq_false h1,Bool.false_and,Bool.and_false] at hbad;have HB2:=Lib.hid hbad;clear hbad hfs;go_wp2_with fail;go_meet;exact ⟨HB2.out,Below.refl _ _⟩
 case rest=>
 obtain ⟨hnb,hb4⟩:=hcut;generalize wc=w4 at*;have hT:gT w b vf vd #[.int .i64 sn,.bool po,.bool sg,.bool la,.int .i64 off,.bool s,.bool e,.slice A ps.length c] (aJ sp) vf vd sp.fl sp.da w3:=
  ⟨Gh.out.blk,Gh.out.fr,Gh.out.dr,fun k hk=> .inl hk,fun k hk=> .inl hk,(Kept.of_below HB3.out).iJ fun k o ho hm=>by have:=lt_of_heap ho;omega,NA.out,BM.out,hbl⟩
 have wB:=hT.below hb4;have uL:=Lib.hid wB;have NB:=Lib.hid hnb;have hll:=HO.out.ll;clear hT wB hb4 hnb AL HBAD Gh NA BM HB3 y0 z0 z1 z2 HH Nz;have y0:=uL.out.bp.cell 0;simp at y0;obtain ⟨z0,z1,z2⟩:w4.cell? ⟨b,0,none⟩=some vf∧w4.cell? ⟨b,1,none⟩=some vd∧w4.cell? ⟨b,2,none⟩=some (.int .i64 (aJ sp)):=⟨uL.out.blk.cell 0,uL.out.blk.cell 1,uL.out.blk.cell 2⟩;obtain ⟨Af,cf,rfl,hfs⟩:=fA.cr uL.out.fr;have hcap:=hfs.cap;have hmx:=hfs.mx;have QD:en≤32767:=by have:=Iz.out;omega
 have hwn:IntKind.i64.wrap ((en:Int)-(sp.fl.length:Int))=(en:Int)-(sp.fl.length:Int):=IntWalk.i64_in _ (by omega);have Ef:=Lib.hid hll;clear hfs hll;go_upto_if 75 with (fail)
 obtain ⟨K,hK⟩:∃K:Int,K=(en:Int)-(sp.fl.length:Int):=⟨_,rfl⟩
 rw[←hK];go_cut [] from 75 to 93 (fun wx=>∃eF eu,gT w b (.slice Af sp.fl.length cf) vd #[.int .i64 sn,.bool po,.bool sg,.bool la,.int .i64 off,.bool s,.bool e,.slice A ps.length c] (aJ sp) eF eu (fT en sp.fl) (ja en sp.da) wx)
 case first=>
  by_cases hn:sp.fl.length<en
  ·obtain ⟨kn,rfl⟩:∃kn:Nat,K=(kn:Int):=⟨en-sp.fl.length,by omega⟩
   have hkn:en-sp.fl.length=kn:=by omega
   have hkp:0<kn:=by omega
   have hkb:kn≤32767:=by omega
   have he1:jT sp.fl++(Builtin.zeroCells (Value.agg #[.bool false,.bool false,.bool false]).cells kn).toList=jT (fT en sp.fl):=by
    show jT sp.fl++(Builtin.zeroCells #[.bool false,.bool false,.bool false] kn).toList=jT (fT en sp.fl)
    rw[rf,←zX];unfold fT;rw[hkn]
   have he2:bE sp.da++(Builtin.zeroCells (Value.int .u8 0).cells kn).toList=bE (ja en sp.da):=by
    show bE sp.da++(Builtin.zeroCells #[.int .u8 0] kn).toList=bE (ja en sp.da)
    rw[rq];unfold ja;rw[Ef.out,hkn];simp[bE]
   have hl1:(fT en sp.fl).length=sp.fl.length+kn:=by unfold fT;rw[List.length_append,List.length_replicate,hkn]
   have hl2:(ja en sp.da).length=sp.da.length+kn:=by unfold ja;rw[List.length_append,List.length_replicate,Ef.out,hkn]
   have hz1:∀u∈(Builtin.zeroCells #[.bool false,.bool false,.bool false] kn).toList,u.oneCell'=true:=by
    rw[rf];intro u hu;simp only[jT,List.mem_flatMap,List.mem_cons,List.not_mem_nil,or_false] at hu;obtain ⟨r,_,rfl|rfl|rfl⟩:=hu<;>rfl
   have hz2:∀u∈(Builtin.zeroCells #[.int .u8 0] kn).toList,u.oneCell'=true:=by
    rw[rq];intro u hu;simp only[bE,List.mem_map] at hu;obtain ⟨r,_,rfl⟩:=hu;rfl
   obtain ⟨i1,hi1,KM,KN,KO⟩:=xV;obtain ⟨i2,hi2,KP,KQ,KR⟩:=info_parts jl;have Ga:=Lib.hid he1;have HE2:=Lib.hid he2;have KS:=Lib.hid hl1;have HL2:=Lib.hid hl2;have Sr:=Lib.hid hkn;have QE:=uL.out.blk.frozen 0;have hown1:=uL.out.drew.fr;clear he1 he2 hl1 hl2 hK hkn;go_upto_region 9 with (fail)
   go_cut [] from 75 to 84 (fun wx=>∃v2,gT w b (.slice Af sp.fl.length cf) vd #[.int .i64 sn,.bool po,.bool sg,.bool la,.int .i64 off,.bool s,.bool e,.slice A ps.length c] (aJ sp) v2 vd (fT en sp.fl) sp.da wx)
   case first=>
    refine wp_region_noPanic ?_;refine bJ (fun w'=>w'.cell? ⟨w.heap.size,0,none⟩=some (.pointer (some ⟨b,0,none⟩))∧w'.cell? ⟨b,0,none⟩=some (.slice Af sp.fl.length cf)) [9] (by kernel_rfl) ?_;have hHeld:=(show (fun w':World=>w'.cell? ⟨w.heap.size,0,none⟩=some (.pointer (some ⟨b,0,none⟩))∧w'.cell? ⟨b,0,none⟩=some (.slice Af sp.fl.length cf)) _ from ⟨y0,z0⟩);refine ax [2,3,4,6,9] (i:=1) (v:= ?_) rfl (by kernel_rfl) (by kernel_rfl) (by kernel_rfl) (by kernel_rfl) (fun _ _ _ h=>h) (Or.inl ⟨by rfl,?_⟩) hHeld ?_;rotate_left
    ·intro w' hSw;obtain ⟨hS1,hS2⟩:=hSw;go_simp
     try with_reducible rfl
    try simp only[Act.put,List.getElem_toArray,List.getElem_cons_zero,List.getElem_cons_succ,List.setIfInBounds_toArray,List.set_cons_zero,List.set_cons_succ]
    refine ah (i:=2) (v:= ?_) rfl (by kernel_rfl) (by kernel_rfl) (by kernel_rfl) (by kernel_rfl) (fun _ _ _ h=>h) (Or.inl ⟨by rfl,?_⟩) hHeld ?_;rotate_left
    ·intro w' hSw;go_simp
     try with_reducible rfl
    try simp only[Act.put,List.getElem_toArray,List.getElem_cons_zero,List.getElem_cons_succ,List.setIfInBounds_toArray,List.set_cons_zero,List.set_cons_succ]
    refine ah (i:=3) (v:= ?_) rfl (by kernel_rfl) (by kernel_rfl) (by kernel_rfl) (by kernel_rfl) (fun _ _ _ h=>h) (Or.inl ⟨by rfl,?_⟩) hHeld ?_;rotate_left
    ·intro w' hSw;go_simp
     try with_reducible rfl
    try simp only[Act.put,List.getElem_toArray,List.getElem_cons_zero,List.getElem_cons_succ,List.setIfInBounds_toArray,List.set_cons_zero,List.set_cons_succ]
    refine ax [6,9] (i:=4) (v:= ?_) rfl (by kernel_rfl) (by kernel_rfl) (by kernel_rfl) (by kernel_rfl) (fun _ _ _ h=>h) (Or.inl ⟨by rfl,?_⟩) hHeld ?_;rotate_left
    ·intro w' hSw;obtain ⟨hS1,hS2⟩:=hSw;go_simp
     try with_reducible rfl
    try simp only[Act.put,List.getElem_toArray,List.getElem_cons_zero,List.getElem_cons_succ,List.setIfInBounds_toArray,List.set_cons_zero,List.set_cons_succ]
    refine ah (i:=5) (v:= ?_) rfl (by kernel_rfl) (by kernel_rfl) (by kernel_rfl) (by kernel_rfl) (fun _ _ _ h=>h) (Or.inl ⟨by rfl,?_⟩) hHeld ?_;rotate_left
    ·intro w' hSw;go_simp
     try with_reducible rfl
    try simp only[Act.put,List.getElem_toArray,List.getElem_cons_zero,List.getElem_cons_succ,List.setIfInBounds_toArray,List.set_cons_zero,List.set_cons_succ]
    refine ax [7,8,9] (i:=0) (v:= ?_) rfl (by kernel_rfl) (by kernel_rfl) (by kernel_rfl) (by kernel_rfl) (fun _ _ _ h=>h) (Or.inl ⟨by rfl,?_⟩) hHeld ?_;rotate_left
    ·intro w' hSw;obtain ⟨hS1,hS2⟩:=hSw;go_simp
     try with_reducible rfl
    try simp only[Act.put,List.getElem_toArray,List.getElem_cons_zero,List.setIfInBounds_toArray,List.set_cons_zero,List.set_cons_succ]
    refine aO (i:=6) rfl (by kernel_rfl) (by rfl) (fun K hK=> ?_);refine gM _ _ _ 88 3 rfl 0 101 i1 (.agg #[.bool false,.bool false,.bool false]) 3 3 .i64 .i64 xW jI hi1 KM KN KO rfl (by decide) (.slice Af sp.fl.length cf) sp.fl.length (jT sp.fl) (by rfl) hown1 kn (by rfl) hkp hz1 (by unfold maxLen;omega) (by omega) (Nat.zero_le _) ?_;rintro v2 w5 IA hg5 hv5;rw[Ga.out,←KS.out] at IA;obtain ⟨A2,c2,rfl,_⟩:=fA.cr IA;have hb5:=uL.out.drew.blk.grown hg5 (dB hown1 uL.out.drew.blk (by decide));have NC:=uL.out.drew.bp.grown hg5 (dB hown1 uL.out.drew.bp (by decide));have q0:=NC.cell 0;have q1:=hb5.cell 0;have q2:=hb5.frozen 0;simp at q0 q1;have uI:=Lib.hid (uL.out.drew.flags IA hg5 hv5);clear IA hg5 hv5 hb5 NC;refine hK _ _ ⟨q0,q1⟩ ?_;clear hK K hHeld;have hHeld:=(show (fun w':World=>w'.cell? ⟨w.heap.size,0,none⟩=some (.pointer (some ⟨b,0,none⟩))∧w'.cell? ⟨b,0,none⟩=some (.slice Af sp.fl.length cf)) _ from ⟨q0,q1⟩)
    try simp only[Act.put,List.getElem_toArray,List.getElem_cons_zero,List.getElem_cons_succ,List.setIfInBounds_toArray,List.set_cons_zero,List.set_cons_succ]
    refine ah (i:=7) (v:= ?_) rfl (by kernel_rfl) (by kernel_rfl) (by kernel_rfl) (by kernel_rfl) (fun _ _ _ h=>h) (Or.inl ⟨by rfl,?_⟩) hHeld ?_;rotate_left
    ·intro w' hSw;go_simp
     try with_reducible rfl
    try simp only[Act.put,List.getElem_toArray,List.getElem_cons_zero,List.getElem_cons_succ,List.setIfInBounds_toArray,List.set_cons_zero,List.set_cons_succ]
    refine ah (i:=8) (v:= ?_) rfl (by kernel_rfl) (by kernel_rfl) (by kernel_rfl) (by kernel_rfl) (fun _ _ _ h=>h) (Or.inl ⟨by rfl,?_⟩) hHeld ?_;rotate_left
    ·intro w' hSw;go_simp
     try with_reducible rfl
    try simp only[Act.put,List.getElem_toArray,List.getElem_cons_zero,List.getElem_cons_succ,List.setIfInBounds_toArray,List.set_cons_zero,List.set_cons_succ]
    refine bB (i:=9) rfl (by kernel_rfl) (by kernel_rfl) (by rfl) (fun K hK=> ?_);go_simp;refine hK _ _ ?_;clear hK K
    try simp only[Act.put,List.getElem_toArray,List.getElem_cons_zero,List.getElem_cons_succ,List.setIfInBounds_toArray,List.set_cons_zero,List.set_cons_succ]
    refine aS (by kernel_rfl) ?_ _;simp only[NoPanic];go_wp2_with fail;go_meet;exact ⟨_,uI.out⟩
   case rest=>
   obtain ⟨v2,uH⟩:=hcut;have uI:=Lib.hid uH;have y0:=uH.bp.cell 0;simp at y0;have z1:wc.cell? ⟨b,1,none⟩=some vd:=uH.blk.cell 1;have Ss:=uH.blk.frozen 1;have hown2:=uH.drew.dr;have hdl:sp.da.length≤32767:=by have:=Ef.out;omega
   clear uH hown1 QE z0;go_upto_region 10 with (fail)
   go_cut [] from 75 to 93 (fun wx=>∃v2 v3,gT w b (.slice Af sp.fl.length cf) vd #[.int .i64 sn,.bool po,.bool sg,.bool la,.int .i64 off,.bool s,.bool e,.slice A ps.length c] (aJ sp) v2 v3 (fT en sp.fl) (ja en sp.da) wx)
   case first=>
    refine wp_region_noPanic ?_;refine bJ (fun w'=>w'.cell? ⟨w.heap.size,0,none⟩=some (.pointer (some ⟨b,0,none⟩))∧w'.cell? ⟨b,1,none⟩=some (vd)) [9] (by kernel_rfl) ?_;have hHeld:=(show (fun w':World=>w'.cell? ⟨w.heap.size,0,none⟩=some (.pointer (some ⟨b,0,none⟩))∧w'.cell? ⟨b,1,none⟩=some (vd)) _ from ⟨y0,z1⟩);refine ax [2,3,4,6,9] (i:=1) (v:= ?_) rfl (by kernel_rfl) (by kernel_rfl) (by kernel_rfl) (by kernel_rfl) (fun _ _ _ h=>h) (Or.inl ⟨by rfl,?_⟩) hHeld ?_;rotate_left
    ·intro w' hSw;obtain ⟨hS1,hS2⟩:=hSw;go_simp
     try with_reducible rfl
    try simp only[Act.put,List.getElem_toArray,List.getElem_cons_zero,List.getElem_cons_succ,List.setIfInBounds_toArray,List.set_cons_zero,List.set_cons_succ]
    refine ah (i:=2) (v:= ?_) rfl (by kernel_rfl) (by kernel_rfl) (by kernel_rfl) (by kernel_rfl) (fun _ _ _ h=>h) (Or.inl ⟨by rfl,?_⟩) hHeld ?_;rotate_left
    ·intro w' hSw;go_simp
     try with_reducible rfl
    try simp only[Act.put,List.getElem_toArray,List.getElem_cons_zero,List.getElem_cons_succ,List.setIfInBounds_toArray,List.set_cons_zero,List.set_cons_succ]
    refine ah (i:=3) (v:= ?_) rfl (by kernel_rfl) (by kernel_rfl) (by kernel_rfl) (by kernel_rfl) (fun _ _ _ h=>h) (Or.inl ⟨by rfl,?_⟩) hHeld ?_;rotate_left
    ·intro w' hSw;go_simp
     try with_reducible rfl
    try simp only[Act.put,List.getElem_toArray,List.getElem_cons_zero,List.getElem_cons_succ,List.setIfInBounds_toArray,List.set_cons_zero,List.set_cons_succ]
    refine ax [6,9] (i:=4) (v:= ?_) rfl (by kernel_rfl) (by kernel_rfl) (by kernel_rfl) (by kernel_rfl) (fun _ _ _ h=>h) (Or.inl ⟨by rfl,?_⟩) hHeld ?_;rotate_left
    ·intro w' hSw;obtain ⟨hS1,hS2⟩:=hSw;go_simp
     try with_reducible rfl
    try simp only[Act.put,List.getElem_toArray,List.getElem_cons_zero,List.getElem_cons_succ,List.setIfInBounds_toArray,List.set_cons_zero,List.set_cons_succ]
    refine ah (i:=5) (v:= ?_) rfl (by kernel_rfl) (by kernel_rfl) (by kernel_rfl) (by kernel_rfl) (fun _ _ _ h=>h) (Or.inl ⟨by rfl,?_⟩) hHeld ?_;rotate_left
    ·intro w' hSw;go_simp
     try with_reducible rfl
    try simp only[Act.put,List.getElem_toArray,List.getElem_cons_zero,List.getElem_cons_succ,List.setIfInBounds_toArray,List.set_cons_zero,List.set_cons_succ]
    refine ax [7,8,9] (i:=0) (v:= ?_) rfl (by kernel_rfl) (by kernel_rfl) (by kernel_rfl) (by kernel_rfl) (fun _ _ _ h=>h) (Or.inl ⟨by rfl,?_⟩) hHeld ?_;rotate_left
    ·intro w' hSw;obtain ⟨hS1,hS2⟩:=hSw;go_simp
     try with_reducible rfl
    try simp only[Act.put,List.getElem_toArray,List.getElem_cons_zero,List.setIfInBounds_toArray,List.set_cons_zero,List.set_cons_succ]
    refine aO (i:=6) rfl (by kernel_rfl) (by rfl) (fun K hK=> ?_);refine gM _ _ _ 22 3 rfl 0 5 i2 (.int .u8 0) 1 1 .i64 .i64 und29 jI hi2 KP KQ KR rfl (by decide) vd sp.da.length (bE sp.da) (by rfl) hown2 kn (by rfl) hkp hz2 (by unfold maxLen;omega) (by omega) (Nat.zero_le _) ?_;rintro v3 w6 IB Gj hv6;rw[HE2.out,←HL2.out] at IB;obtain ⟨A3,c3,rfl,_,_⟩:=aK IB;have hb6:=uI.out.drew.blk.grown Gj (dB hown2 uI.out.drew.blk (by decide));have ND:=uI.out.drew.bp.grown Gj (dB hown2 uI.out.drew.bp (by decide));have q0:=ND.cell 0;have q1:=hb6.cell 1;have q2:=hb6.frozen 1;simp at q0 q1;have QF:=Lib.hid (uI.out.drew.data IB Gj hv6);clear IB Gj hv6 hb6 ND;refine hK _ _ ⟨q0,q1⟩ ?_;clear hK K hHeld;have hHeld:=(show (fun w':World=>w'.cell? ⟨w.heap.size,0,none⟩=some (.pointer (some ⟨b,0,none⟩))∧w'.cell? ⟨b,1,none⟩=some (vd)) _ from ⟨q0,q1⟩)
    try simp only[Act.put,List.getElem_toArray,List.getElem_cons_zero,List.getElem_cons_succ,List.setIfInBounds_toArray,List.set_cons_zero,List.set_cons_succ]
    refine ah (i:=7) (v:= ?_) rfl (by kernel_rfl) (by kernel_rfl) (by kernel_rfl) (by kernel_rfl) (fun _ _ _ h=>h) (Or.inl ⟨by rfl,?_⟩) hHeld ?_;rotate_left
    ·intro w' hSw;go_simp
     try with_reducible rfl
    try simp only[Act.put,List.getElem_toArray,List.getElem_cons_zero,List.getElem_cons_succ,List.setIfInBounds_toArray,List.set_cons_zero,List.set_cons_succ]
    refine ah (i:=8) (v:= ?_) rfl (by kernel_rfl) (by kernel_rfl) (by kernel_rfl) (by kernel_rfl) (fun _ _ _ h=>h) (Or.inl ⟨by rfl,?_⟩) hHeld ?_;rotate_left
    ·intro w' hSw;go_simp
     try with_reducible rfl
    try simp only[Act.put,List.getElem_toArray,List.getElem_cons_zero,List.getElem_cons_succ,List.setIfInBounds_toArray,List.set_cons_zero,List.set_cons_succ]
    refine bB (i:=9) rfl (by kernel_rfl) (by kernel_rfl) (by rfl) (fun K hK=> ?_);go_simp;refine hK _ _ ?_;clear hK K
    try simp only[Act.put,List.getElem_toArray,List.getElem_cons_zero,List.getElem_cons_succ,List.setIfInBounds_toArray,List.set_cons_zero,List.set_cons_succ]
    refine aS (by kernel_rfl) ?_ _;simp only[NoPanic];go_wp2_with fail;go_meet;exact ⟨_,_,QF.out⟩
   case rest=>
   obtain ⟨v2,v3,KT⟩:=hcut;go_wp2_with fail;go_meet;exact ⟨_,_,KT⟩
  ·have he1:fT en sp.fl=sp.fl:=by unfold fT;rw[show en-sp.fl.length=0 by omega];simp
   have he2:ja en sp.da=sp.da:=by have:=Ef.out;unfold ja;rw[show en-sp.da.length=0 by omega];simp
   have Ga:=Lib.hid he1;have HE2:=Lib.hid he2;have hn2:(en:Int)-(sp.fl.length:Int)≤0:=by omega
   clear he1 he2;go_wp2_with fail;go_meet;rw[Ga.out,HE2.out];exact ⟨_,_,uL.out⟩
 case rest=>
 obtain ⟨qp,qw,hT⟩:=hcut;have Gl:(fT en sp.fl).length=max sp.fl.length en:=by unfold fT;rw[List.length_append,List.length_replicate];omega
 have Gm:(ja en sp.da).length=max sp.fl.length en:=by unfold ja;rw[List.length_append,List.length_replicate,Ef.out];omega
 obtain ⟨x0,hx0⟩:∃x0:List Fl × List UInt8,x0=(fT en sp.fl,ja en sp.da):=⟨_,rfl⟩
 have hT:gT w b (.slice Af sp.fl.length cf) vd #[.int .i64 sn,.bool po,.bool sg,.bool la,.int .i64 off,.bool s,.bool e,.slice A ps.length c] (aJ sp) qp qw x0.1 x0.2 wc:=by rw[hx0];exact hT
 obtain ⟨L,hL⟩:∃L,L=max sp.fl.length en:=⟨_,rfl⟩
 have hl1:x0.1.length=L:=by rw[hx0];exact Gl.trans hL.symm
 have hl2:x0.2.length=L:=by rw[hx0];exact Gm.trans hL.symm
 have Sv:en≤L:=by omega
 have P7:L≤32767:=by omega
 have HX0:=Lib.hid hx0;have KS:=Lib.hid hl1;have HL2:=Lib.hid hl2;have hdi:=av.new wc 3 #[.int .i64 0];have uH:=hT.alloc (.cells #[.int .i64 0] 3);have QG:w.heap.size≤wc.heap.size:=hT.kp.size;have NE:=hT.bx.lt;clear Gl Gm hx0 hL hl1 hl2 uL y0 z0 z1 z2 hcap hmx hwn Ef hT hK hle;go_upto_region 12 with (fail)
 generalize wc.alloc (.cells #[.int .i64 0] 3)=w5 at*;generalize wc.heap.size=bi at*;have hS5:=HST.out w5 uH.kp;have hbd:=sU sn po sg la off s e A ps.length c vs ps w5 hS5 (by have:=tq.out;omega) (by omega) (by have:=Bf.out;omega);unfold bC at hbd;have NF:=Lib.hid hbd;have uI:=Lib.hid uH;have KU:=Lib.hid hdi;obtain ⟨q0,q1,q2,q3,q4,q5,q6,q7⟩:=uH.bx.eight;clear hbd hS5 uH hdi;go_wp2_with fail;refine NF.out.mono ?_;rintro e5 w6 ⟨g,v,rfl,Gj,bg,hv6,hb6⟩;have KT:=uI.out.below hb6;have KV:=KU.out.below hb6 KU.out.lt;clear NF q0 q1 q2 q3 q4 q5 q6 q7;go_wp2_with fail;have fq:Tryz.prog.follows .mixedOrders=true:=by kernel_rfl
 have hI0:JM w b (.slice Af sp.fl.length cf) vd #[.int .i64 sn,.bool po,.bool sg,.bool la,.int .i64 off,.bool s,.bool e,.slice A ps.length c] (aJ sp) qp qw s e off ps x0 bi w6 0 w6:=⟨KT,KV,Kept.refl _ _⟩;have J7:=hb6.size;have NG:=KU.out.lt;have QH:w.heap.size≤w6.heap.size:=by omega
 have hbb:b<w.heap.size:=hbl;have hgb:g≠b:=by omega
 have hgi:g≠bi:=by omega
 have Gn:∀j,qp.ownBlock=some j→j<w5.heap.size:=fun j hj=>(uI.out.fr.lt j hj).2
 have Gp:∀j,qw.ownBlock=some j→j<w5.heap.size:=fun j hj=>(uI.out.dr.lt j hj).2
 have hvl:=fun j hj=>hv6.lt j hj
 apply wpIn_wide (n:=5).1;apply iw (gf:=126) (lb:= #[.pointer (some ⟨g,0,none⟩)]) rfl (by omega) rfl trivial (enters_of Tryz.func126 (by kernel_rfl) rfl)
  (qN _ (by omega) g w5.heap.size v off ps (by omega) (by have:=Bf.out;omega) (by have:=tq.out;omega) (Aa b qp qw bi w6.heap.size) w6 bg hv6 (by rintro (h|h|h|h|h)<;>first|omega|(have:=Gn g h;omega)|(have:=Gp g h;omega)|(have:=bg.lt;omega)) (fun j _ hj=>by have h9:=hvl j hj;rintro (h|h|h|h|h)<;>first|omega|(have:=Gn j h;omega)|(have:=Gp j h;omega)))
  Kept.trans (fun W l o o' hl ho hc _=>(Kept.refl _ W).grown (grownBy_putObj' W l o') (fun j e _ _=>by cases e;exact .inr (.inr (.inr (.inr hl))))) (Below.refl _ _) (fun _=>rfl)
  (JM w b (.slice Af sp.fl.length cf) vd #[.int .i64 sn,.bool po,.bool sg,.bool la,.int .i64 off,.bool s,.bool e,.slice A ps.length c] (aJ sp) qp qw s e off ps x0 bi w6) (Ab _ _ _ _ _ _ _ _ _ _ _ _ _ _ _ QH) hI0
 case hassign=>
  intro l k W K hK;simp only[pE]
  gi_wp2
  exact hK
 case hbody=>
  intro l k W hk hI;have hpk:ps[k]? =some (ps[k]?.getD []):=by rw[List.getElem?_eq_getElem hk];rfl
  have hsn:=dX ps k hk;have hsl:=Nat.le_trans (bq ps (k+1)) (Nat.le_of_eq Bf.out);have hJ0:q9 w b (.slice Af sp.fl.length cf) vd #[.int .i64 sn,.bool po,.bool sg,.bool la,.int .i64 off,.bool s,.bool e,.slice A ps.length c] (aJ sp) qp qw (ng s e off ps x0 k 0).1 (ng s e off ps x0 k 0).2 bi w6 W k W:=
   ⟨by rw[xR];exact hI.t,hI.di,hI.kp,Kept.refl _ _,⟨Nat.le_refl _,fun _ _ _ h _=>h⟩⟩
  obtain ⟨ka,hka⟩:∃ka,off+aB (ps.take k)=ka:=⟨_,rfl⟩
  have hkb:off+aB (ps.take (k+1))=ka+(ps[k]?.getD []).length:=by omega
  obtain ⟨N,hN⟩:∃N,N=(ps[k]?.getD []).length:=⟨_,rfl⟩
  rw[←hN] at hkb;obtain ⟨E,hE⟩:∃E,E=ka+N:=⟨_,rfl⟩
  rw[show (off:Int)+((aB (ps.take k):Nat):Int)=(ka:Int) by omega,show (off:Int)+((aB (ps.take (k+1)):Nat):Int)=(E:Int) by omega];have hkN:ka+N≤en:=by have:=Iz.out;omega
  have QI:=Lib.hid hka;have HN:=Lib.hid hN;have HE:=Lib.hid hE;have Sw:=Lib.hid hkb;have EK:=Lib.hid hJ0;have Hu:=Lib.hid hpk;have Sy:E≤en:=by omega
  clear hpk hsn hsl hJ0 hka hkb hN hE hkN
  gi_wp2
  gi_loopw [10] (fun s10 wr=>∃j a:Nat,j≤N∧a=ka+j∧s10= .int .i64 (a:Int)∧q9 w b (.slice Af sp.fl.length cf) vd #[.int .i64 sn,.bool po,.bool sg,.bool la,.int .i64 off,.bool s,.bool e,.slice A ps.length c] (aJ sp) qp qw (ng s e off ps x0 k j).1 (ng s e off ps x0 k j).2 bi w6 W k wr) (fun s10 _=>E-(intOf s10).toNat)
  case atStart=>exact ⟨0,ka,Nat.zero_le _,rfl,rfl,EK.out⟩
  case round=>
   obtain ⟨j,a,hj,ha,rfl,hJ⟩:=hrel;have hwz:=hJ.kp.size;have HA:=Lib.hid ha;have Sz:a≤E:=by have:=HE.out;omega
   obtain ⟨z,hz⟩:∃z,z=ng s e off ps x0 k j:=⟨_,rfl⟩
   rw[←hz] at hJ;by_cases hlt:j<N
   ·have hsu:=xU (s:=s) (e:=e) (off:=off) (ps:=ps) (x0:=x0) (k:=k) (j:=j) (by rw[←HN.out];exact hlt);rw[←hz,QI.out,←HN.out,←ha] at hsu;have hln:=zZ (s:=s) (e:=e) (off:=off) (ps:=ps) (x0:=x0) (k:=k) j;rw[←hz,KS.out,HL2.out] at hln;obtain ⟨fl,da⟩:=z;dsimp only at hJ hsu hln;obtain ⟨hfl,hdl⟩:=hln;have hfr:=hJ.t.fr;have hdr:=hJ.t.dr;have hL0:0<L:=by have:=HE.out;omega
    have hfr2:=hfr;have Dr:=hdr;rw[hfl] at hfr2;rw[hdl] at Dr;obtain ⟨gf,Gq,rfl,Ks,Kt,QJ⟩:=jK hfr2 hL0;obtain ⟨gd,Hz,rfl,Ku,Kv,QK⟩:=jK Dr hL0;clear hfr2 Dr;have hfs:fA wr (some ⟨gf,0,none⟩) L Gq fl:=by
     obtain ⟨A',c',e',hs'⟩:=fA.cr hfr;rw[hfl] at e' hs';cases e';exact hs'
    obtain ⟨ad,Ai,ci,rfl,hbk,hck,yL⟩:=(HST.out wr hJ.t.kp).get hk;rw[←HN.out] at hck yL;obtain ⟨ai,u,rfl,hab,hu,Ht⟩:=yL.get hlt;obtain ⟨x,hx⟩:∃x,(ps[k]?.getD [])[j]? =some x:=⟨_,List.getElem?_eq_getElem (by rw[←HN.out];exact hlt)⟩
    have QL:u=bv x:=by
     simp only[bE,List.getElem?_map,hx,Option.map_some,Option.some.injEq] at hu;exact hu.symm
    subst QL;simp only[bv] at Ht;rw[hx,Option.getD_some] at hsu;have hhas:Calls Tryz.prog 85 #[.slice (some ⟨gf,0,none⟩) L Gq,.int .i64 (a:Int),.int .i64 0] wr fun e w'=>e= .returned (.bool (bK fl a).1)∧wr=w':=l8 hfs a (by omega) 0 (by omega)
    have y0:=hJ.t.bp.cell 0;simp at y0;obtain ⟨z0,z1,z2⟩:wr.cell? ⟨b,0,none⟩=some (.slice (some ⟨gf,0,none⟩) L Gq)∧wr.cell? ⟨b,1,none⟩=some (.slice (some ⟨gd,0,none⟩) L Hz)∧wr.cell? ⟨b,2,none⟩=some (.int .i64 (aJ sp)):=⟨hJ.t.blk.cell 0,hJ.t.blk.cell 1,hJ.t.blk.cell 2⟩;obtain ⟨q0,q1,q2,q3,q4,q5,q6,q7⟩:=hJ.t.bx.eight;have yi:=hJ.di.cell 0;simp at yi;have NH:=yL.cap;have NI:=yL.mx;have hat:a<L:=by have:=HE.out;omega
    have nP:=Lib.hid hhas;have zm:=Lib.hid hsu;have kD:=Lib.hid hfl;have ql:=Lib.hid hdl;have HJ:=Lib.hid hJ;have hlt2:(a:Int)<(E:Int):=by have:=HE.out;omega
    have hkn:(k:Int)<(ps.length:Int):=by omega
    have SA:IntKind.i64.wrap ((a:Int)-(ka:Int))=(j:Int):=by rw[IntWalk.i64_in _ (by omega)];omega
    clear hz hfr hdr hfs hhas hsu hfl hdl hJ yL hx hu q0 q1 q2 q3 q4 z2 ha;cases wE:(bK fl a).1 with
    |true=>
     rw[wE] at nP;have hsu:=zm.out;rw[if_pos wE] at hsu;have Gr:(ng s e off ps x0 k (j+1)).1=fl:=by rw[hsu]
     have Gs:(ng s e off ps x0 k (j+1)).2=da:=by rw[hsu]
     have KW:=HJ.out;rw[←Gr,←Gs] at KW;have NJ:=Lib.hid KW;clear hsu wE Gr Gs KW
     gi_wp2_with (refine ⟨trivial,?_⟩;gi_at_call 85;refine (CallsIn.inRound l ((callsIn_wide (n:=2)).2 nP.out)).mono ?_;rintro e1 w1 ⟨rfl,rfl⟩)
     go_round
     case rel=>exact ⟨j+1,a+1,by omega,by have:=HA.out;omega,by go_num,NJ.out⟩
     case measure=>simp[intOf];omega
    |false=>
     rw[wE] at nP;have hsu:=zm.out;rw[if_neg (by rw[wE];simp)] at hsu;have NK:=Lib.hid hsu;clear hsu wE
     gi_wp2_with (refine ⟨trivial,?_⟩;gi_at_call 85;refine (CallsIn.inRound l ((callsIn_wide (n:=2)).2 nP.out)).mono ?_;rintro e1 w1 ⟨rfl,rfl⟩)
     have hSt:wr.drew=wr.drew:=rfl;refine aC 17 fq (by kernel_rfl) ?hout1 (by kernel_rfl) ?_
     case hout1=>
      rintro ⟨a',w',hh⟩;exact hh
     simp only[List.take_succ_cons,List.take_zero,List.drop_succ_cons,List.drop_zero]
     repeat (with_reducible refine wpStill_step (fun K hK=> ?_);go_simp;(try refine cZ (by decide) ?_);with_reducible refine hK _ ?_;clear hK K)
     with_reducible refine wpStill_nil ?_
     change wpList _ _ _ _ _ wr.drew;have AO:=Lib.hid (HJ.out.drew hwz);have hdz:=AO.out.t.dr;rw[ql.out] at hdz;have KX:=hdz.frozenAt a;have hdc:wr.drew.cell? ⟨gd,a,none⟩=some (.int .u8 ((da[a]?.getD 0).toNat:Int)):=by
      have h9:=AO.out.t.dr;rw[ql.out] at h9;rw[h9.cellAt a (by omega),bE,List.getElem?_map,List.getElem?_eq_getElem (by rw[ql.out];exact hat)];rfl
     clear hdz;generalize wr.drew=wt at*;go_wp2;have Dt:=AO.out.CU ql.out (at_:=a) x;simp only[bv] at Dt;generalize wt.setCell ⟨gd,a,none⟩ (.int .u8 (x.toNat:Int))=wq at*;have fB:=Lib.hid Dt;obtain ⟨b1,hb1⟩:∃b1,b1=(decide (j=0)&&(decide (0<k)||s)):=⟨_,rfl⟩
     obtain ⟨b2,hb2⟩:∃b2,b2=(decide (j+1=N)&&(decide (k+1<ps.length)||e)):=⟨_,rfl⟩
     have hsv:=NK.out;rw[←hb1,←hb2] at hsv;have qd:=Lib.hid (show (ng s e off ps x0 k (j+1)).1=fl.set a (true,b1,b2) by rw[hsv]);have qf:=Lib.hid (show (ng s e off ps x0 k (j+1)).2=da.set a x by rw[hsv]);have HB1:=Lib.hid hb1;have HB2:=Lib.hid hb2;clear NK zm hsv hb1 hb2 Dt HJ AO y0 z0 z1 q5 q6 q7 yi KX hdc nP;have y0:=fB.out.t.bp.cell 0;simp at y0;have z0:wq.cell? ⟨b,0,none⟩=some (.slice (some ⟨gf,0,none⟩) L Gq):=fB.out.t.blk.cell 0;obtain ⟨q0,q1,q2,q3,q4,q5,q6,q7⟩:=fB.out.t.bx.eight;have yi:=fB.out.di.cell 0;simp at yi;have SB:IntKind.i64.wrap ((E:Int)-1)=(E:Int)-1:=IntWalk.i64_in _ (by omega);have hwk:IntKind.i64.wrap ((k:Int)+1)=(k:Int)+1:=IntWalk.i64_in _ (by have:=tq.out;omega);have AP:∀X:World,X.ownsRow 0 101 3 (.slice (some ⟨gf,0,none⟩) L Gq) fl.length (jT fl)→fl.length=L→a<L→X.cell? ⟨gf,a*3,none⟩=some (.bool (bK fl a).1)∧X.cell? ⟨gf,a*3+1,none⟩=some (.bool (bK fl a).2.1)∧X.cell? ⟨gf,a*3+2,none⟩=some (.bool (bK fl a).2.2):=fun X hX h1 h2=>by
      have hg:=List.getElem?_eq_getElem (l:=fl) (i:=a) (by omega);obtain ⟨e1,e2,e3⟩:=kX fl a _ hg;rw[ou hg];rw[h1] at hX;exact ⟨(hX.cellAt _ (by omega)).trans e1,(hX.cellAt _ (by omega)).trans e2,(hX.cellAt _ (by omega)).trans e3⟩
     clear q0 q1 q2 q3 q4;by_cases hj0:j=0
     ·have d1:((a:Int)==(ka:Int))=true:=by have:=HA.out;simp;omega
      by_cases hk0:0<k
      ·have d3:decide ((k:Int)>0)=true:=by simp;exact hk0
       have QM:decide (0<k)=true:=decide_eq_true hk0;obtain rfl:b1=true:=by rw[HB1.out];simp[hj0,hk0]
       have NJ:=Lib.hid hj0;have sF:=Lib.hid hk0;clear hj0 hk0 HB1;by_cases mR:j+1=N
       ·have d2:((a:Int)==(E:Int)-1)=true:=by have:=HA.out;have:=HE.out;simp;omega
        by_cases gy:k+1<ps.length
        ·have d4:decide ((k:Int)+1<(ps.length:Int))=true:=by simp;omega
         have Gt:decide (k+1<ps.length)=true:=decide_eq_true gy;obtain rfl:b2=true:=by rw[HB2.out];simp[mR,gy]
         clear mR gy HB2;refine aC 37 fq (by kernel_rfl) ?Du (by kernel_rfl) ?_
         case Du=>
          rintro ⟨a',w',hh⟩;exact hh
         simp only[List.take_succ_cons,List.take_zero,List.drop_succ_cons,List.drop_zero]
         repeat (with_reducible refine wpStill_step (fun K hK=> ?_);go_simp;(try refine cZ (by decide) ?_);with_reducible refine hK _ ?_;clear hK K)
         with_reducible refine wpStill_nil ?_
         change wpList _ _ _ _ _ wq.drew;have bW:=Lib.hid (fB.out.drew (by have:=fB.out.kp.size;exact this));obtain ⟨g0,g1,g2⟩:=AP wq.drew bW.out.t.fr kD.out hat;have gz:=bW.out.t.fr;rw[kD.out] at gz
         replace gz:=gz.frozenAt
         generalize wq.drew=wv at*;go_wp2
         gi_wp2_with fail
         go_round
         case rel=>exact ⟨j+1,a+1,by omega,by have:=HA.out;omega,by go_num,by rw[qd.out,qf.out];exact bW.out.mq kD.out hat (true,_,_)⟩
         case measure=>simp[intOf];omega
        ·have d4:decide ((k:Int)+1<(ps.length:Int))=false:=by simp;omega
         have Gt:decide (k+1<ps.length)=false:=decide_eq_false gy;obtain rfl:b2=e:=by rw[HB2.out];simp[mR,gy]
         clear mR gy HB2;refine aC 37 fq (by kernel_rfl) ?Dv (by kernel_rfl) ?_
         case Dv=>
          rintro ⟨a',w',hh⟩;exact hh
         simp only[List.take_succ_cons,List.take_zero,List.drop_succ_cons,List.drop_zero]
         repeat (with_reducible refine wpStill_step (fun K hK=> ?_);go_simp;(try refine cZ (by decide) ?_);with_reducible refine hK _ ?_;clear hK K)
         with_reducible refine wpStill_nil ?_
         change wpList _ _ _ _ _ wq.drew;have bW:=Lib.hid (fB.out.drew (by have:=fB.out.kp.size;exact this));obtain ⟨g0,g1,g2⟩:=AP wq.drew bW.out.t.fr kD.out hat;have gz:=bW.out.t.fr;rw[kD.out] at gz
         replace gz:=gz.frozenAt
         generalize wq.drew=wv at*;go_wp2
         gi_wp2_with fail
         go_round
         case rel=>exact ⟨j+1,a+1,by omega,by have:=HA.out;omega,by go_num,by rw[qd.out,qf.out];exact bW.out.mq kD.out hat (true,_,_)⟩
         case measure=>simp[intOf];omega
       ·have d2:((a:Int)==(E:Int)-1)=false:=by have:=HA.out;have:=HE.out;simp;omega
        obtain rfl:b2=false:=by rw[HB2.out];simp[mR]
        clear mR HB2;refine aC 37 fq (by kernel_rfl) ?Dw (by kernel_rfl) ?_
        case Dw=>
         rintro ⟨a',w',hh⟩;exact hh
        simp only[List.take_succ_cons,List.take_zero,List.drop_succ_cons,List.drop_zero]
        repeat (with_reducible refine wpStill_step (fun K hK=> ?_);go_simp;(try refine cZ (by decide) ?_);with_reducible refine hK _ ?_;clear hK K)
        with_reducible refine wpStill_nil ?_
        change wpList _ _ _ _ _ wq.drew;have bW:=Lib.hid (fB.out.drew (by have:=fB.out.kp.size;exact this));obtain ⟨g0,g1,g2⟩:=AP wq.drew bW.out.t.fr kD.out hat;have gz:=bW.out.t.fr;rw[kD.out] at gz
        replace gz:=gz.frozenAt
        generalize wq.drew=wv at*;go_wp2
        gi_wp2_with fail
        go_round
        case rel=>exact ⟨j+1,a+1,by omega,by have:=HA.out;omega,by go_num,by rw[qd.out,qf.out];exact bW.out.mq kD.out hat (true,_,_)⟩
        case measure=>simp[intOf];omega
      ·have d3:decide ((k:Int)>0)=false:=by simp;omega
       have QM:decide (0<k)=false:=decide_eq_false hk0;obtain rfl:b1=s:=by rw[HB1.out];simp[hj0,hk0]
       clear hj0 hk0 HB1;by_cases mR:j+1=N
       ·have d2:((a:Int)==(E:Int)-1)=true:=by have:=HA.out;have:=HE.out;simp;omega
        by_cases gy:k+1<ps.length
        ·have d4:decide ((k:Int)+1<(ps.length:Int))=true:=by simp;omega
         have Gt:decide (k+1<ps.length)=true:=decide_eq_true gy;obtain rfl:b2=true:=by rw[HB2.out];simp[mR,gy]
         clear mR gy HB2;refine aC 37 fq (by kernel_rfl) ?Dx (by kernel_rfl) ?_
         case Dx=>
          rintro ⟨a',w',hh⟩;exact hh
         simp only[List.take_succ_cons,List.take_zero,List.drop_succ_cons,List.drop_zero]
         repeat (with_reducible refine wpStill_step (fun K hK=> ?_);go_simp;(try refine cZ (by decide) ?_);with_reducible refine hK _ ?_;clear hK K)
         with_reducible refine wpStill_nil ?_
         change wpList _ _ _ _ _ wq.drew;have bW:=Lib.hid (fB.out.drew (by have:=fB.out.kp.size;exact this));obtain ⟨g0,g1,g2⟩:=AP wq.drew bW.out.t.fr kD.out hat;have gz:=bW.out.t.fr;rw[kD.out] at gz
         replace gz:=gz.frozenAt
         generalize wq.drew=wv at*;go_wp2
         gi_wp2_with fail
         go_round
         case rel=>exact ⟨j+1,a+1,by omega,by have:=HA.out;omega,by go_num,by rw[qd.out,qf.out];exact bW.out.mq kD.out hat (true,_,_)⟩
         case measure=>simp[intOf];omega
        ·have d4:decide ((k:Int)+1<(ps.length:Int))=false:=by simp;omega
         have Gt:decide (k+1<ps.length)=false:=decide_eq_false gy;obtain rfl:b2=e:=by rw[HB2.out];simp[mR,gy]
         clear mR gy HB2;refine aC 37 fq (by kernel_rfl) ?Dy (by kernel_rfl) ?_
         case Dy=>
          rintro ⟨a',w',hh⟩;exact hh
         simp only[List.take_succ_cons,List.take_zero,List.drop_succ_cons,List.drop_zero]
         repeat (with_reducible refine wpStill_step (fun K hK=> ?_);go_simp;(try refine cZ (by decide) ?_);with_reducible refine hK _ ?_;clear hK K)
         with_reducible refine wpStill_nil ?_
         change wpList _ _ _ _ _ wq.drew;have bW:=Lib.hid (fB.out.drew (by have:=fB.out.kp.size;exact this));obtain ⟨g0,g1,g2⟩:=AP wq.drew bW.out.t.fr kD.out hat;have gz:=bW.out.t.fr;rw[kD.out] at gz
         replace gz:=gz.frozenAt
         generalize wq.drew=wv at*;go_wp2
         gi_wp2_with fail
         go_round
         case rel=>exact ⟨j+1,a+1,by omega,by have:=HA.out;omega,by go_num,by rw[qd.out,qf.out];exact bW.out.mq kD.out hat (true,_,_)⟩
         case measure=>simp[intOf];omega
       ·have d2:((a:Int)==(E:Int)-1)=false:=by have:=HA.out;have:=HE.out;simp;omega
        obtain rfl:b2=false:=by rw[HB2.out];simp[mR]
        clear mR HB2;refine aC 37 fq (by kernel_rfl) ?Dz (by kernel_rfl) ?_
        case Dz=>
         rintro ⟨a',w',hh⟩;exact hh
        simp only[List.take_succ_cons,List.take_zero,List.drop_succ_cons,List.drop_zero]
        repeat (with_reducible refine wpStill_step (fun K hK=> ?_);go_simp;(try refine cZ (by decide) ?_);with_reducible refine hK _ ?_;clear hK K)
        with_reducible refine wpStill_nil ?_
        change wpList _ _ _ _ _ wq.drew;have bW:=Lib.hid (fB.out.drew (by have:=fB.out.kp.size;exact this));obtain ⟨g0,g1,g2⟩:=AP wq.drew bW.out.t.fr kD.out hat;have gz:=bW.out.t.fr;rw[kD.out] at gz
        replace gz:=gz.frozenAt
        generalize wq.drew=wv at*;go_wp2
        gi_wp2_with fail
        go_round
        case rel=>exact ⟨j+1,a+1,by omega,by have:=HA.out;omega,by go_num,by rw[qd.out,qf.out];exact bW.out.mq kD.out hat (true,_,_)⟩
        case measure=>simp[intOf];omega
     ·have d1:((a:Int)==(ka:Int))=false:=by have:=HA.out;simp;omega
      obtain rfl:b1=false:=by rw[HB1.out];simp[hj0]
      clear hj0 HB1;by_cases mR:j+1=N
      ·have d2:((a:Int)==(E:Int)-1)=true:=by have:=HA.out;have:=HE.out;simp;omega
       by_cases gy:k+1<ps.length
       ·have d4:decide ((k:Int)+1<(ps.length:Int))=true:=by simp;omega
        have Gt:decide (k+1<ps.length)=true:=decide_eq_true gy;obtain rfl:b2=true:=by rw[HB2.out];simp[mR,gy]
        clear mR gy HB2;refine aC 37 fq (by kernel_rfl) ?DC (by kernel_rfl) ?_
        case DC=>
         rintro ⟨a',w',hh⟩;exact hh
        simp only[List.take_succ_cons,List.take_zero,List.drop_succ_cons,List.drop_zero]
        repeat (with_reducible refine wpStill_step (fun K hK=> ?_);go_simp;(try refine cZ (by decide) ?_);with_reducible refine hK _ ?_;clear hK K)
        with_reducible refine wpStill_nil ?_
        change wpList _ _ _ _ _ wq.drew;have bW:=Lib.hid (fB.out.drew (by have:=fB.out.kp.size;exact this));obtain ⟨g0,g1,g2⟩:=AP wq.drew bW.out.t.fr kD.out hat;have gz:=bW.out.t.fr;rw[kD.out] at gz
        replace gz:=gz.frozenAt
        generalize wq.drew=wv at*;go_wp2
        gi_wp2_with fail
        go_round
        case rel=>exact ⟨j+1,a+1,by omega,by have:=HA.out;omega,by go_num,by rw[qd.out,qf.out];exact bW.out.mq kD.out hat (true,_,_)⟩
        case measure=>simp[intOf];omega
       ·have d4:decide ((k:Int)+1<(ps.length:Int))=false:=by simp;omega
        have Gt:decide (k+1<ps.length)=false:=decide_eq_false gy;obtain rfl:b2=e:=by rw[HB2.out];simp[mR,gy]
        clear mR gy HB2;refine aC 37 fq (by kernel_rfl) ?DD (by kernel_rfl) ?_
        case DD=>
         rintro ⟨a',w',hh⟩;exact hh
        simp only[List.take_succ_cons,List.take_zero,List.drop_succ_cons,List.drop_zero]
        repeat (with_reducible refine wpStill_step (fun K hK=> ?_);go_simp;(try refine cZ (by decide) ?_);with_reducible refine hK _ ?_;clear hK K)
        with_reducible refine wpStill_nil ?_
        change wpList _ _ _ _ _ wq.drew;have bW:=Lib.hid (fB.out.drew (by have:=fB.out.kp.size;exact this));obtain ⟨g0,g1,g2⟩:=AP wq.drew bW.out.t.fr kD.out hat;have gz:=bW.out.t.fr;rw[kD.out] at gz
        replace gz:=gz.frozenAt
        generalize wq.drew=wv at*;go_wp2
        gi_wp2_with fail
        go_round
        case rel=>exact ⟨j+1,a+1,by omega,by have:=HA.out;omega,by go_num,by rw[qd.out,qf.out];exact bW.out.mq kD.out hat (true,_,_)⟩
        case measure=>simp[intOf];omega
      ·have d2:((a:Int)==(E:Int)-1)=false:=by have:=HA.out;have:=HE.out;simp;omega
       obtain rfl:b2=false:=by rw[HB2.out];simp[mR]
       clear mR HB2;refine aC 37 fq (by kernel_rfl) ?DF (by kernel_rfl) ?_
       case DF=>
        rintro ⟨a',w',hh⟩;exact hh
       simp only[List.take_succ_cons,List.take_zero,List.drop_succ_cons,List.drop_zero]
       repeat (with_reducible refine wpStill_step (fun K hK=> ?_);go_simp;(try refine cZ (by decide) ?_);with_reducible refine hK _ ?_;clear hK K)
       with_reducible refine wpStill_nil ?_
       change wpList _ _ _ _ _ wq.drew;have bW:=Lib.hid (fB.out.drew (by have:=fB.out.kp.size;exact this));obtain ⟨g0,g1,g2⟩:=AP wq.drew bW.out.t.fr kD.out hat;have gz:=bW.out.t.fr;rw[kD.out] at gz
       replace gz:=gz.frozenAt
       generalize wq.drew=wv at*;go_wp2
       gi_wp2_with fail
       go_round
       case rel=>exact ⟨j+1,a+1,by omega,by have:=HA.out;omega,by go_num,by rw[qd.out,qf.out];exact bW.out.mq kD.out hat (true,_,_)⟩
       case measure=>simp[intOf];omega
   ·have mR:j=N:=by omega
    have KY:a=E:=by have:=HA.out;have:=HE.out;omega
    have DI:=xS (s:=s) (e:=e) (off:=off) (x0:=x0) hk;rw[←HN.out,←mR,←hz] at DI;rw[DI] at hJ;have hlt2:¬(a:Int)<(E:Int):=by omega
    have yi:=hJ.di.cell 0;have fi:=hJ.di.frozen 0;simp at yi;have hwk:IntKind.i64.wrap ((k:Int)+1)=(k:Int)+1:=IntWalk.i64_in _ (by have:=tq.out;omega);have hnx:=hJ.next (by omega) (by omega) (by omega) (by omega)
    rw[show ((k+1:Nat):Int)=(k:Int)+1 by omega] at hnx;have Gu:=Lib.hid hnx;clear DI mR KY hz hJ hnx ha
    gi_wp2_with fail
    exact ⟨Gu.out.kf,Gu.out.k2,Gu.out.t,by simpa using Gu.out.di,Gu.out.kp⟩
 case hdone=>
  intro D W hD hI pY;have htk:dz sp ⟨sn,po,sg,la,off,s,e,ps⟩=⟨(zh s e off ps x0 ps.length).1,(zh s e off ps x0 ps.length).2,if fin=true then some en else sp.size⟩:=by
   have he:off+aB ps=en:=by rw[Bf.out];exact Iz.out
   unfold dz zh jB vH;dsimp only;rw[HX0.out,he,tX.out,List.take_of_length_le (Nat.le_refl _)]
  have y0:=hI.t.bp.cell 0;simp at y0;have z2:W.cell? ⟨b,2,none⟩=some (.int .i64 (aJ sp)):=hI.t.blk.cell 2;have SC:=hI.t.blk.frozen 2;have zk:=Lib.hid htk;have HI:=Lib.hid hI;clear htk hI;cases fin with
  |false=>
   have hs2:aJ (dz sp ⟨sn,po,sg,la,off,s,e,ps⟩)=aJ sp:=by rw[zk.out];rfl
   have hfin:=HI.out.t.EM (.deferred none) pY rfl (by omega);have HS2:=Lib.hid hs2;have HF:=Lib.hid hfin;clear hs2 hfin
   gi_wp2
   go_wp2;refine ⟨by simp,.inl ⟨_,_,rfl,run_takeDeferred pY,?_⟩⟩;refine ⟨.tuple #[],results_none rfl _ _ _,?_⟩;unfold mQ;rw[if_neg (by rw[NB.out];simp)];have h9:=HF.out;have h8:=zk.out;refine ⟨rfl,qp,qw,⟨by rw[HS2.out];exact h9.blk,by rw[h8];exact h9.fr,by rw[h8];exact h9.dr⟩,h9.bf,h9.bd,h9.kp⟩
  |true=>
   have hs2:aJ (dz sp ⟨sn,po,sg,la,off,s,e,ps⟩)=(en:Int):=by rw[zk.out];rfl
   have hd2:(W.setCell ⟨b,2,none⟩ (.int .i64 (en:Int))).heap[D]? =some (.deferred (some [])):=(KeepsOthers.setCell W ⟨b,2,none⟩ (.int .i64 (en:Int))).same D _ pY rfl;have hfin:=(HI.out.t.JL (en:Int)).EM (.deferred none) hd2 rfl (by omega);have HS2:=Lib.hid hs2;have HF:=Lib.hid hfin;clear hs2 hfin
   gi_wp2
   go_wp2;refine ⟨by simp,.inl ⟨_,_,rfl,run_takeDeferred hd2,?_⟩⟩;refine ⟨.tuple #[],results_none rfl _ _ _,?_⟩;unfold mQ;rw[if_neg (by rw[NB.out];simp)];have h9:=HF.out;have h8:=zk.out;refine ⟨rfl,qp,qw,⟨by rw[HS2.out];exact h9.blk,by rw[h8];exact h9.fr,by rw[h8];exact h9.dr⟩,h9.bf,h9.bd,h9.kp⟩
end
end Go.Proofs.YtiecgfahidpldaaGreat
