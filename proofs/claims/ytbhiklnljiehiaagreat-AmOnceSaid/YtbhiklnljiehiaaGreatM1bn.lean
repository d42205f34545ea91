/- A new transmitter as a transmitter of th. -/
import Derived.Test.YtbhiklnljiehiaaGreatM1bm
namespace Go.Proofs.YtbhiklnljiehiaaGreat
section
open Go.RowKit Go.Shelf
theorem jL {lo hi:Int} {xs:List Int} (h:within lo hi xs=true):∀x∈xs,lo≤x∧x≤hi:=by
 intro x hx;unfold within at h;simp only[Bool.not_eq_true',List.any_eq_false] at h;have:=h x hx;unfold outside at this;simp at this;omega
def sZ (a0 a1 a2 a3 a4 a5 a6:Int):Cf:=⟨a0,a1,a2,a3,a4,a5,a6⟩
theorem II {a0 a1 a2 a3 a4 a5 a6:Int} (h:dR a0 a1 a2 a3 a4 a5 a6=true):Pf (sZ a0 a1 a2 a3 a4 a5 a6):=by
 unfold dR at h;simp only[Bool.and_eq_true] at h;obtain ⟨h1,h2,h3,h4,h5,h6⟩:=h;exact ⟨jL h1 a0 (by simp),jL h2 a1 (by simp),jL h3 a2 (by simp),jL h5 a5 (by simp),jL h6 a6 (by simp)⟩
theorem Uf {w:World} {g:Nat} (c:Cf) (hb:au w g 143 (eU c (.slice none 0 0) (.slice none 0 0) dK)):eZ w (·=g) (·=g) g c dK (.slice none 0 0) [] (.slice none 0 0) []:=
 ⟨hb,rfl,fun _ h=>h,fun k hk=>by rw[show k=g from hk];exact hb.lt,Hf _ _ _,fun k hk=>by simp[aX] at hk,fun i p hi=>by simp[dK] at hi,Hf _ _ _,fun k hk=>by simp[aX] at hk,fun i x hi=>by simp[dK] at hi,fun i j v hi _=>by simp at hi⟩
def abY (w:World) (a0 a1 a2 a3 a4 a5 a6:Int) (e:Ending) (w':World):Prop:=
 Below w.heap.size w w'∧
  ((dR a0 a1 a2 a3 a4 a5 a6=true∧∃s,e= .returned (.tuple #[.pointer (some ⟨s,0,none⟩),.int .i64 0])∧w.heap.size≤s∧BS w' (·=s) s (sZ a0 a1 a2 a3 a4 a5 a6) dK∧fq (sZ a0 a1 a2 a3 a4 a5 a6) dK 0)∨(dR a0 a1 a2 a3 a4 a5 a6=false∧e= .returned (.tuple #[.pointer none,.int .i64 2])))
theorem Ug (a0 a1 a2 a3 a4 a5 a6:Int) (w:World):Calls Tryz.prog 70 #[.agg (wK a0 a1 a2 a3 a4 a5 a6)] w (abY w a0 a1 a2 a3 a4 a5 a6):=by
 refine (abH a0 a1 a2 a3 a4 a5 a6 w).mono ?_;rintro e w' ⟨hb,⟨h1,s,he,hs,hblk⟩|h⟩
 ·exact ⟨hb,.inl ⟨h1,s,he,hs,⟨_,_,_,_,_,Uf (sZ a0 a1 a2 a3 a4 a5 a6) hblk⟩,⟨II h1,qO.new,jW.new⟩⟩⟩
 ·exact ⟨hb,.inr h⟩
end
section
open Go.RowKit
section
variable {aO V2:List (List UInt8)} {N N' K:Nat} {pu rY:Nat→Ou} {left left':Nat→List (List UInt8)} {sent sent':Nat→Nat} {H H':Nat→Prop} {st st':Sd} {r:Rc}
theorem pO.ext (h:pO aO N pu left sent r) (hN:N≤N') (hp:∀k,k<N→rY k=pu k) (ho:yV left' sent' r.next r.op r.sm):pO V2 N' rY left' sent' r:=
 {nx:=Nat.le_trans h.nx hN,m:=fun k p hm=>(by obtain ⟨a,b,d,e⟩:=h.m k p hm;exact ⟨a,by omega,d,by rw[hp k b];exact e⟩),op:=ho,s1:=h.s1,s2:=Nat.le_trans h.s2 hN,sc:=h.sc,h1:=h.h1,h2:=Nat.le_trans h.h2 hN,tr:=h.tr,nc:=h.nc,tn:=h.tn}
theorem pO.fresh (h:pO aO N pu left sent r) (hp:∀k,k<N→rY k=pu k) (hl:∀i,i≤N→left' i=left i∧sent' i=sent i):pO aO (N+1) rY left' sent' r:=by
 obtain ⟨e1,e2⟩:=hl r.next h.nx
 refine h.ext (Nat.le_succ _) hp ?_;unfold yV;rw[e1,e2];exact h.op
theorem pO.iK (D:Dir aO N pu left sent) (h:pO aO N pu left sent r) (x:List UInt8):pO (aO++ [x]) N pu (fun i=>left i++ [x]) sent r:=by
 refine h.ext (aN) (fun _ _=>rfl) ?_;have:=h.op;unfold yV at this ⊢;rw[Cv x (D.ok r.next h.nx).z];exact this
theorem Q6 (D:Dir aO N pu left sent) {i:Nat} (hi:i≤N) (x:List UInt8):oJ (aO++ [x]) (fun j=>left j++ [x]) i=oJ aO left i:=by
 have:=D.UQ hi;unfold oJ;simp only[List.length_append,List.length_cons,List.length_nil];rw[show aO.length+(0+1)-((left i).length+(0+1))=aO.length-(left i).length by omega,List.take_append_of_le_length (by omega)]
def Gn (N:Nat) (pu:Nat→Ou) (b:List UInt8):Prop:=∃k a,k<N∧qP b= .inr a∧Piece (pu k) a
def Gp (N:Nat) (pu:Nat→Ou) (H:Nat→Prop) (b:List UInt8):Prop:=∃aJ l,b=rA aJ l∧V3 N pu H aJ l
theorem Gn.mono {b:List UInt8} (h:Gn N pu b) (hN:N≤N') (hp:∀k,k<N→rY k=pu k):Gn N' rY b:=by
 obtain ⟨k,a,h1,h2,h3⟩:=h;exact ⟨k,a,by omega,h2,by rw[hp k h1];exact h3⟩
theorem Gp.mono {b:List UInt8} (h:Gp N pu H b) (hN:N≤N') (hp:∀k,k<N→rY k=pu k) (hH:∀k,H k→H' k):Gp N' rY H' b:=by
 obtain ⟨aJ,l,h1,h2⟩:=h;exact ⟨aJ,l,h1,h2.mono hN hp hH⟩
theorem ah0 {x:Ou} (h:zn x) (po:Bool) {fr till:Nat} (h1:fr<till) (h2:till≤aC x):
 qP (oD x.sn po true (decide (till=aC x)) fr (aZ x.ps x.s 0 fr x.ps.length) (cu x.ps x.e 0 till x.ps.length) (aP x.ps 0 fr till x.ps.length))= .inr (Ct x po fr till)∧Piece x (Ct x po fr till):=by
 have ht:till≤aj x.ps:=h2;have hs:=h.ps.sum;have so:=FZ x.ps 0 fr till (Nat.zero_le _) (by omega);have vo:=sK x.ps 0 fr till h.ps (Nat.zero_le _) h1 (by omega);have hsn:=h.sn;have v2:gW (x.sn:Nat) true (decide (till=aj x.ps)) (fr:Nat) (aP x.ps 0 fr till x.ps.length)=true:=
  (mP _ _ _ _ _).2 ⟨by omega,by omega,(kT _).2 vo,fun _=>by rw[so];omega,fun h=>by cases h⟩
 exact ⟨I9 _ _ _ _ _ _ _ _ v2,NU x po (fun p hp=>h.ps.pos p hp) h1 ht⟩
theorem Q7 {x:Ou} (h:zn x) (po:Bool):qP (oD x.sn po false false 0 x.s x.e x.ps)= .inr ⟨x.sn,po,false,false,0,x.s,x.e,x.ps⟩∧Piece x ⟨x.sn,po,false,false,0,x.s,x.e,x.ps⟩:=by
 refine ⟨I9 _ _ _ _ _ _ _ _ (mh h),rfl,?_,by show 0+aj _≤_;rw[Nat.zero_add];exact aN,?_,fun j z hz=>by show (yo _)[0+j]? =_;rw[Nat.zero_add];exact hz⟩
 ·exact Cr (fun e=>by have:=h.ps.lo;rw[show x.ps= [] from e] at this;simp at this) h.ps.pos
 ·constructor
  ·intro _;show 0+aj _=_
   rw[Nat.zero_add];rfl
  ·intro _;rfl
theorem NV (c:Cf) (n:Int) (h:uf aO N pu left sent H st) {i:Nat} {x:Ou} (hx:st.out[i]? =some x) (ho:zn x) {p:Pu} (hp:(fQ c n st i x).2=some p):Gn N pu (IU (some p)):=by
 have hs:=h.out i x hx;have hil:=(List.getElem?_eq_some_iff.1 hx).1;have hfo:=h.fo;unfold fQ at hp;cases hl:x.pend with
 |nil=>rw[hl] at hp;cases hp
 |cons q rest=>
  obtain ⟨fr,e0⟩:=q;rw[hl] at hp;have hpr:=ho.pr (fr,e0) (by rw[hl];simp);dsimp only at hp hpr;split at hp
  ·cases hp;obtain ⟨d1,d2⟩:=Q7 ho (bK c (gQ st i x []) false).2;exact ⟨st.first+i,_,by omega,d1,d2.same hs⟩
  ·split at hp
   ·cases hp
   ·rename_i hne;cases hp;have hb:=su (fP x fr n) (e0+1-fr) fr;generalize qg (fP x fr n) (e0+1-fr) fr=J at*;generalize (bK c (gQ st i x (if J=e0+1 then rest else (J,e0)::rest)) false).2=po;obtain ⟨d1,d2⟩:=ah0 ho po (fr:=fr) (till:=J) (by omega) (by omega);exact ⟨st.first+i,_,by omega,d1,d2.same hs⟩
theorem uf.kI (D:Dir aO N pu left sent) (h:uf aO N pu left sent H st) (hN:N<511) (c:Cf) (hb:fq c st K) (now n:Int) (dM:now≤9223372036854775807):
 ∃N' rY left' sent',N≤N'∧N'≤N+1∧(∀k,k<N→rY k=pu k)∧(∀i,i≤N→left' i=left i∧sent' i=sent i)∧Dir aO N' rY left' sent'∧uf aO N' rY left' sent' H (bV c st now n).1∧
  (∀p,(bV c st now n).2.1=some p→Gn N' rY (IU (some p))):=by
 have same:∀s2,jl H st s2→∃N' rY left' sent',N≤N'∧N'≤N+1∧(∀k,k<N→rY k=pu k)∧(∀i,i≤N→left' i=left i∧sent' i=sent i)∧Dir aO N' rY left' sent'∧uf aO N' rY left' sent' H s2∧
  (∀p,(none:Option Pu)=some p→Gn N' rY (IU (some p))):=fun s2 hs=>⟨N,pu,left,sent,aN,Nat.le_succ _,fun _ _=>rfl,fun _ _=>⟨rfl,rfl⟩,D,h.Ox hs,fun p e=>by cases e⟩
 unfold bV;split
 ·exact same _ (jl.refl _)
 split
 ·exact same _ (jl.refl _)
 have ht:jl H st (eX c st now):=jl.tick c st now;have hb1:jW (eX c st now) (K+3):=(hb.bnd.tick c dM).mono (by omega);have hi1:=hb.inv.tick c now;unfold mM;split
 ·exact same _ ht
 have h1:=h.Ox ht;dsimp only;generalize eX c st now=s1 at*;cases hp:gU s1.out with
 |some i=>
  obtain ⟨x,hx,_⟩:=gI hp;simp only[hx];refine ⟨N,pu,left,sent,aN,Nat.le_succ _,fun _ _=>rfl,fun _ _=>⟨rfl,rfl⟩,D,h1.Ox (jl.again c n hx),fun p e=> ?_⟩;exact NV c n h1 hx (hb1.ou x (List.mem_of_getElem? hx)) e
 |none=>
  dsimp only;by_cases hw:512≤s1.out.length
  ·have e:fA c n s1=(s1,none):=by unfold fA;rw[if_pos hw]
   rw[e];exact same _ ht
  by_cases hne:(bH n s1).ps= []
  ·have e:fA c n s1=(s1,none):=by unfold fA;rw[if_neg hw,if_pos hne]
   rw[e];exact same _ ht
  have e:fA c n s1=((bK c (eD s1 (bH n s1)) (iV c (eD s1 (bH n s1)))).1,some (bH n s1,(bK c (eD s1 (bH n s1)) (iV c (eD s1 (bH n s1)))).2)):=by unfold fA;rw[if_neg hw,if_neg hne]
  rw[e];clear e;dsimp only;obtain ⟨rY,left',sent',f1,f2,f3,f4,f5⟩:=h1.fresh D hN n hne;have hok:=chunk_ok hb1 hi1.toInvV n hne;refine ⟨N+1,rY,left',sent',Nat.le_succ _,aN,f1,f2,f3,f4.Ox (jl.finish c _ _),fun p e=> ?_⟩;cases e;obtain ⟨d1,d2⟩:=Q7 hok (bK c (eD s1 (bH n s1)) (iV c (eD s1 (bH n s1)))).2;exact ⟨N,_,by omega,d1,d2.same f5⟩
theorem pO.flags {r2:Rc} (h:pO aO N pu left sent r) (e1:r2.m=r.m) (e2:r2.next=r.next) (e3:r2.status=r.status) (e4:r2.high=r.high) (e5:r2.ro=r.ro) (e6:r2.iO=r.iO) (e7:r2.op=r.op) (e8:r2.sm=r.sm):pO aO N pu left sent r2:=
 {nx:=by rw[e2];exact h.nx,m:=by rw[e1,e2,e4];exact h.m,op:=by rw[e2,e7,e8];exact h.op,s1:=by rw[e2,e3];exact h.s1,s2:=by rw[e3];exact h.s2,sc:=by rw[e1,e3];exact h.sc,h1:=by rw[e2,e4];exact h.h1,h2:=by rw[e4];exact h.h2,tr:=by rw[e5,e6,e4];exact h.tr,nc:=by rw[e1,e2];exact h.nc,tn:=by rw[e5,e6,e2];exact h.tn}
theorem Gq (l:List Nk) (hl:l.Pairwise UN) (N:Nat):∀(q:Nat) (y:Int × Nat),q≤l.length→(∀n∈l,n.sn<y.1→n∈l.take y.2)→(∀n∈l,n.sn<(tu l N q y).1→n∈l.take (tu l N q y).2)∧((tu l N q y).1=y.1∨∃n∈l,(tu l N q y).1=n.sn)
 |0,y,_,h=>⟨h,.inl rfl⟩
 |q+1,y,hq,h=>by
  rw[tu];split
  ·exact ⟨h,.inl rfl⟩
  split
  ·exact Gq l hl N q y (by omega) h
  ·have hsn:Ch l q=l[q].sn:=by unfold Ch;rw[List.getElem?_eq_getElem (by omega)];rfl
   obtain ⟨a,b⟩:=Gq l hl N q (Ch l q,q) (by omega) (fun n hn hlt=>by
    dsimp only at hlt ⊢;obtain ⟨j,hj,rfl⟩:=List.mem_iff_getElem.1 hn;have hjq:j<q:=by
     rcases Nat.lt_or_ge j q with e|e
     ·exact e
     ·exfalso;rcases Nat.eq_or_lt_of_le e with e|e
      ·subst e;rw[hsn] at hlt;omega
      ·have:=(List.pairwise_iff_getElem.1 hl) q j (by omega) hj e;rw[hsn] at hlt;rcases this with e1|e1<;>omega
    exact List.mem_iff_getElem.2 ⟨j,by rw[List.length_take];omega,by rw[List.getElem_take]⟩)
   refine ⟨a,?_⟩;rcases b with b|b
   ·exact .inr ⟨l[q],List.getElem_mem _,by rw[b,hsn]⟩
   ·exact .inr b
theorem pO.grants (D:Dir aO N pu left sent) (h:pO aO N pu left sent r) (c:Cf) (now n:Int):
 pO aO N pu left sent (dS c r now n).1∧(dS c r now n).1.next=r.next∧(dS c r now n).1.m=r.m∧((dS c r now n).2.1≠ []→Gp N pu (Has r) (dS c r now n).2.1):=by
 obtain ⟨g1,g2,g3⟩:=h.goes D.T c now;unfold dS;split
 ·exact ⟨h,rfl,rfl,fun e=>absurd rfl e⟩
 split
 ·exact ⟨g1,g2,g3,fun e=>absurd rfl e⟩
 refine ⟨g1.flags rfl rfl rfl rfl rfl rfl rfl rfl,g2,g3,fun hne=> ?_⟩;obtain ⟨a1,a2,a3⟩:=pO.report D.T g1;have hH:∀k,Has (cZ c r now) k→Has r k:=fun k hk=>by unfold Has at hk ⊢;rwa [g2,g3] at hk
 have hs2:=g1.s2;dsimp only at hne ⊢;generalize lm (cZ c r now)=R at*;obtain ⟨aJ,l⟩:=R;unfold Gd at hne ⊢;dsimp only at a1 a2 a3 hne ⊢;by_cases hv:bS (aJ:Int) l=true
 ·rw[if_pos hv] at hne ⊢;obtain ⟨b1,b2⟩:=Gq l a3.pw n.toNat l.length ((aJ:Int),l.length) (aN) (fun n hn _=>by dsimp only;rw[List.take_length];exact hn);have hfs:Dz (aJ:Int) l n.toNat=tu l n.toNat l.length ((aJ:Int),l.length):=rfl;rw[←hfs] at b1 b2;generalize Dz (aJ:Int) l n.toNat=y at*;obtain ⟨a,q⟩:=y;dsimp only at b1 b2 hne ⊢;have ha:0≤a∧a≤aJ:=by
   rcases b2 with e|⟨n,hn,e⟩
   ·omega
   ·have h1:=(a3.ok n hn).s0;have h2:=(a3.ok n hn).s1;omega
  obtain ⟨a,rfl⟩:=Int.eq_ofNat_of_zero_le ha.1;unfold encR at hne ⊢;dsimp only at hne ⊢;by_cases hv2:bS (a:Int) (l.take q)=true
  ·rw[if_pos hv2];refine ⟨a,l.take q,by rw[Int.toNat_natCast],by omega,hv2,fun k hk=> ?_⟩;rcases a3.Z4 k (by omega) with e|⟨n,hn,e1,e2⟩
   ·exact .inl (hH k e)
   ·exact .inr ⟨n,b1 n hn (by rw[e1];omega),e1,e2⟩
  ·rw[if_neg hv2] at hne;exact absurd rfl hne
 ·rw[if_neg hv] at hne ⊢;have hv0:bS (0:Int) []=true:=by decide
  unfold encR;dsimp only;rw[if_pos hv0];exact ⟨0,[],rfl,by omega,hv0,fun k hk=>by omega⟩
end
def aM (c:Cf) (s:Sd) (r:Rc) (now n:Int):Sd × Rc × List UInt8 × Int:=
 if s.failed=true then (s,r,[],8)
 else if n<0 then (s,r,[],2)
 else if (fM c s now).2≠0 then ((fM c s now).1,r,[],(fM c s now).2)
 else if tO (cZ c r now) now=true∧2≤n then ((fM c s now).1,(dS c (cZ c r now) now n).1,(dS c (cZ c r now) now n).2.1,((dS c (cZ c r now) now n).2.2:Nat))
 else ((bV c (fM c s now).1 now n).1,cZ c r now,IU (bV c (fM c s now).1 now n).2.1,(bV c (fM c s now).1 now n).2.2)
end
end Go.Proofs.YtbhiklnljiehiaaGreat
