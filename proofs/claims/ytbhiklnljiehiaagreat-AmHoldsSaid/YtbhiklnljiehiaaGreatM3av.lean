/- status.Valid. -/
import Derived.Test.YtbhiklnljiehiaaGreatM3an
set_option maxHeartbeats 1000000
set_option maxRecDepth 10000
namespace Go.Proofs.YtbhiklnljiehiaaGreat
open RowKit Tryz
attribute [local go_sem] Oper.semAt_some
theorem Ic (b:Nat) (ng:List Value) (bs:List Bool) (Inv:World->Prop) (w:World) (hlen:bs.length=ng.length) (hsm:ng.length<=1000) (hI:∀W,Inv W->av W b 26 ng.toArray)
 (hcall:∀(i:Nat) (fv:Value) (x:Bool) (W:World),ng[i]? =some fv->bs[i]? =some x->(∀y∈bs.take i,y=true)->Inv W->Calls prog 207 #[fv] W fun e W'=>e= .returned (.bool (!x))/\Inv W')
 (h0:Inv w):Calls prog 221 #[.slice (some ⟨b,0,none⟩) ng.length ng.length,.func (.func 207) #[] #[]] w (IV bs Inv):=by
 have HC:=ah hcall;have HI:=ah hI;have HL:=ah hlen;clear hcall hI hlen;obtain ⟨N,hN⟩:∃N,N=ng.length:=⟨_,rfl⟩
 rw[<-hN] at hsm ⊢;have HN:=ah hN;clear hN;go_enter func221,ntmps221;go_wp2
 go_loopw [8] (fun i wr=>∃k:Nat,k<=N/\i= .int .i64 k/\(∀y∈bs.take k,y=true)/\Inv wr) (fun i _=>N-(intOf i).toNat)
 case atStart=>exact ⟨0,eH _,rfl,by simp,h0⟩
 case round=>
  clear h0;obtain ⟨k,hk,rfl,hall,hinv⟩:=hrel;have HA:=ah hall;clear hall;by_cases hlt:k<N
  ·obtain ⟨fv,jE⟩:∃fv,ng[k]? =some fv:=⟨_,gX (by rw[<-HN.out];exact hlt)⟩
   obtain ⟨x,hx⟩:∃x,bs[k]? =some x:=⟨_,gX (by rw[HL.out,<-HN.out];exact hlt)⟩
   have hcl:=HC.out k fv x wr jE hx HA.out hinv;have hcell:=(HI.out wr hinv).cell k;rw[nW,jE] at hcell;have yB:=ah hcl;have HX:=ah hx;clear hcl jE hx;cases x with
   |true=>
    go_wp2_with (go_at_call 207;refine yB.out.mono ?_;rintro e w' ⟨rfl,hi'⟩)
    go_roundw
    case rel=>exact ⟨k+1,by omega,by go_num,by
     intro y hy;rw[pX,HX.out,iH] at hy;rcases hy with hy|hy
     ·exact HA.out y hy
     ·simpa using hy,hi'⟩
    case measure=>simp[intOf];omega
   |false=>
    go_wp2_with (go_at_call 207;refine yB.out.mono ?_;rintro e w' ⟨rfl,hi'⟩);go_ret;refine ⟨.inl ⟨k,rfl,?_⟩,hi'⟩;rw[List.all_eq_false];exact ⟨false,iT HX.out,by simp⟩
  ·have e:bs.take k=bs:=kI (by rw[HL.out,<-HN.out];omega);have hA:=HA.out;rw[e] at hA;have DU:=ah hA;clear hA e;go_wp2;go_ret;exact ⟨.inr ⟨rfl,by rw[Dq];exact DU.out⟩,hinv⟩
theorem Ch (b:Nat) (ng:List Value) (bs:List Bool) (Inv:World->Prop) (w:World)
 (h:Calls prog 221 #[.slice (some ⟨b,0,none⟩) ng.length ng.length,.func (.func 207) #[] #[]] w (IV bs Inv)):
 Calls prog 206 #[.slice (some ⟨b,0,none⟩) ng.length ng.length,.func (.func 207) #[] #[]] w fun e w'=>e= .returned (.bool (!bs.all id))/\Inv w':=by
 have H:=ah h;clear h;go_enter func206,ntmps206;go_wp2_with fail;refine H.out.mono ?_;rintro e w' ⟨⟨k,rfl,ha⟩|⟨rfl,ha⟩,hi⟩
 ·have HA:=ah ha;clear ha;go_wp2;go_ret;exact ⟨dm (by rw[HA.out];rfl),hi⟩
 ·have HA:=ah ha;clear ha;go_wp2;go_ret;exact ⟨dm (by rw[HA.out];rfl),hi⟩
theorem US (b:Nat) (ng:List Value) (bs:List Bool) (Inv:World->Prop) (w:World)
 (h:Calls prog 206 #[.slice (some ⟨b,0,none⟩) ng.length ng.length,.func (.func 207) #[] #[]] w fun e w'=>e= .returned (.bool (!bs.all id))/\Inv w'):
 Calls prog 178 #[.slice (some ⟨b,0,none⟩) ng.length ng.length] w fun e w'=>e= .returned (.bool (bs.all id))/\Inv w':=by
 have H:=ah h;clear h;go_enter func178,ntmps178;go_wp2_with fail;refine H.out.mono ?_;rintro e w' ⟨rfl,hi⟩;go_wp2;go_ret;exact ⟨dm (by simp),hi⟩
def nU (n:Nk):Array Value:= #[n.sn,.bool n.part,n.fr,n.lt]
theorem av.jP {w:World} {g:Nat} {t:TypeId} {x y z u:Value} (b:av w g t #[x,y,z,u]):w.cell? g=some x/\w.cell? ⟨g,1,none⟩=some y/\w.cell? ⟨g,2,none⟩=some z/\w.cell? ⟨g,3,none⟩=some u:=
 ⟨b.cell 0,b.cell 1,b.cell 2,b.cell 3⟩
theorem R7 (a b:Int):bits .and .i64 (IntKind.i64.wrap (a-b)) 1023=(a-b)%1024:=by
 rw[Au,vk];omega
section
variable (w:World)
theorem Jp (aA sn:Int):Calls prog 181 #[aA,sn] w fun e w'=>e= .returned (.int .i64 (kr aA sn))/\w=w':=by
 go_enter func181,ntmps181;go_wp2;go_ret;exact ⟨qY (by rw[<-IntWalk.i64_left];exact R7 aA sn),rfl⟩
variable (bn ba:Nat) (aA:Int) (n:Nk)
theorem UT (hb:av w bn 197 (nU n)):Calls prog 176 #[.pointer (some bn)] w fun e w'=>e= .returned (.bool (decide (n.fr=0)&&decide (n.lt=0)))/\w=w':=by
 obtain ⟨x0,x1,x2,x3⟩:=hb.jP;by_cases h0:n.fr=0
 ·have e0:(n.fr==0)=true:=by simp[h0]
  have e1:(n.lt==0)=decide (n.lt=0):=by rw[mr];simp
  rw[iK h0];generalize decide (n.lt=0)=d at*;have H0:=ah h0;clear h0;go_enter func176,ntmps176;go_wp2;go_ret;exact ⟨rfl,rfl⟩
 ·have e0:(n.fr==0)=false:=by simp[h0]
  rw[iP h0];go_enter func176,ntmps176;go_wp2;go_ret;exact ⟨rfl,rfl⟩
theorem UU (hb:av w bn 197 (nU n)):Calls prog 177 #[.pointer (some bn)] w fun e w'=>e= .returned (.bool (decide (0<=n.fr)&&(decide (n.fr<=n.lt)&&decide (n.lt<=32767))))/\w=w':=by
 obtain ⟨x0,x1,x2,x3⟩:=hb.jP;by_cases h0:0<=n.fr
 ·by_cases h1:n.fr<=n.lt
  ·rw[iK h0,iK h1];have d0:=iK h0;have d1:=iK h1;go_enter func177,ntmps177;go_wp2;go_ret;exact ⟨rfl,rfl⟩
  ·rw[iK h0,iP h1];have d0:=iK h0;have d1:=iP h1;go_enter func177,ntmps177;go_wp2;go_ret;exact ⟨rfl,rfl⟩
 ·rw[iP h0];have d0:=iP h0;go_enter func177,ntmps177;go_wp2;go_ret;exact ⟨rfl,rfl⟩
theorem UW (hb:av w bn 197 (nU n)):Calls prog 179 #[.pointer (some bn)] w fun e w'=>e= .returned (.bool (decide (0<=n.sn)&&decide (n.sn<1024)))/\w=w':=by
 obtain ⟨x0,x1,x2,x3⟩:=hb.jP;by_cases h0:0<=n.sn
 ·rw[iK h0];have d0:=iK h0;go_enter func179,ntmps179;go_wp2;go_ret;exact ⟨rfl,rfl⟩
 ·rw[iP h0];have d0:=iP h0;go_enter func179,ntmps179;go_wp2;go_ret;exact ⟨rfl,rfl⟩
theorem UX (hb:av w bn 197 (nU n)) (ha:av w ba 3 #[aA]):Calls prog 180 #[.pointer (some ba),.pointer (some bn)] w fun e w'=>e= .returned (.bool (decide (1<=kr aA n.sn)&&decide (kr aA n.sn<=512)))/\w=w':=by
 obtain ⟨x0,x1,x2,x3⟩:=hb.jP;have y0:=ha.cell 0;simp at y0;have hd:=Jp w aA n.sn;have HD:=ah hd;clear hd hb ha;generalize kr aA n.sn=d at*;by_cases h0:1<=d
 ·rw[iK h0];have d0:=iK h0;go_enter func180,ntmps180;go_wp2_with (go_at_call 181;refine HD.out.mono ?_;rintro e w' ⟨rfl,rfl⟩);go_ret;exact ⟨rfl,rfl⟩
 ·rw[iP h0];have d0:=iP h0;go_enter func180,ntmps180;go_wp2_with (go_at_call 181;refine HD.out.mono ?_;rintro e w' ⟨rfl,rfl⟩);go_ret;exact ⟨rfl,rfl⟩
theorem KA (LG:Nat) (cap:Array Value) (x:Bool) (hf:(LG=176/\cap= #[.pointer (some bn)])\/(LG=177/\cap= #[.pointer (some bn)])\/(LG=179/\cap= #[.pointer (some bn)])\/(LG=180/\cap= #[.pointer (some ba),.pointer (some bn)]))
 (h:Calls prog LG cap w fun e w'=>e= .returned (.bool x)/\w=w'):
 Calls prog 207 #[.func (.func LG) #[] cap] w fun e w'=>e= .returned (.bool (!x))/\w=w':=by
 have H:=ah h;clear h;rcases hf with ⟨rfl,rfl⟩|⟨rfl,rfl⟩|⟨rfl,rfl⟩|⟨rfl,rfl⟩
 ·go_enter func207,ntmps207;go_wp2_with (go_at_call 176;refine H.out.mono ?_;rintro e w' ⟨rfl,rfl⟩);go_ret;exact ⟨rfl,rfl⟩
 ·go_enter func207,ntmps207;go_wp2_with (go_at_call 177;refine H.out.mono ?_;rintro e w' ⟨rfl,rfl⟩);go_ret;exact ⟨rfl,rfl⟩
 ·go_enter func207,ntmps207;go_wp2_with (go_at_call 179;refine H.out.mono ?_;rintro e w' ⟨rfl,rfl⟩);go_ret;exact ⟨rfl,rfl⟩
 ·go_enter func207,ntmps207;go_wp2_with (go_at_call 180;refine H.out.mono ?_;rintro e w' ⟨rfl,rfl⟩);go_ret;exact ⟨rfl,rfl⟩
def rA (aA:Int) (n:Nk):List Bool:=
 [decide (0<=n.sn)&&decide (n.sn<1024),decide (1<=kr aA n.sn)&&decide (kr aA n.sn<=512),if n.part=true then decide (0<=n.fr)&&(decide (n.fr<=n.lt)&&decide (n.lt<=32767)) else decide (n.fr=0)&&decide (n.lt=0)]
theorem MR:(rA aA n).all id=iq aA n:=by
 simp[rA,iq]
theorem FB:Calls prog 139 #[aA,.agg (nU n)] w fun e w'=>e= .returned (.bool (iq aA n))/\Below w w w':=by
 obtain ⟨f3,hf3⟩:∃f3,f3=if n.part then 177 else 176:=⟨_,rfl⟩
 have bA:=((av.new w 3 #[aA]).alloc (.cells (nU n) 197)).alloc (.cells #[.func (.func 179) #[] #[.pointer (some ⟨w+1,0,none⟩)],.func (.func 180) #[] #[.pointer (some w),.pointer (some ⟨w+1,0,none⟩)],.func (.func f3) #[] #[.pointer (some ⟨w+1,0,none⟩)]] 26);have bN:=(av.new (w.alloc (.cells #[aA] 3)) 197 (nU n)).alloc (.cells #[.func (.func 179) #[] #[.pointer (some ⟨w+1,0,none⟩)],.func (.func 180) #[] #[.pointer (some w),.pointer (some ⟨w+1,0,none⟩)],.func (.func f3) #[] #[.pointer (some ⟨w+1,0,none⟩)]] 26);have bL:=av.new ((w.alloc (.cells #[aA] 3)).alloc (.cells (nU n) 197)) 26 #[.func (.func 179) #[] #[.pointer (some ⟨w+1,0,none⟩)],.func (.func 180) #[] #[.pointer (some w),.pointer (some ⟨w+1,0,none⟩)],.func (.func f3) #[] #[.pointer (some ⟨w+1,0,none⟩)]];simp only[mZ] at bN bL;have hBw:Below w w (((w.alloc (.cells #[aA] 3)).alloc (.cells (nU n) 197)).alloc (.cells #[.func (.func 179) #[] #[.pointer (some ⟨w+1,0,none⟩)],.func (.func 180) #[] #[.pointer (some w),.pointer (some ⟨w+1,0,none⟩)],.func (.func f3) #[] #[.pointer (some ⟨w+1,0,none⟩)]] 26)):=
  (((bS _ w).alloc (aL) _).alloc (by simp) _).alloc (by simp;omega) _
 have hall:∀W0,av W0 w 3 #[aA]->av W0 (w+1) 197 (nU n)->av W0 (w.heap.size+1+1) 26 #[.func (.func 179) #[] #[.pointer (some ⟨w+1,0,none⟩)],.func (.func 180) #[] #[.pointer (some w),.pointer (some ⟨w+1,0,none⟩)],.func (.func f3) #[] #[.pointer (some ⟨w+1,0,none⟩)]]->
  Calls prog 178 #[.slice (some ⟨w.heap.size+1+1,0,none⟩) 3 3] W0 fun e w'=>e= .returned (.bool (iq aA n))/\W0=w':=fun W0 b0 b1 b2=>by
  rw[<-MR];refine US (w.heap.size+1+1) [.func (.func 179) #[] #[.pointer (some ⟨w+1,0,none⟩)],.func (.func 180) #[] #[.pointer (some w),.pointer (some ⟨w+1,0,none⟩)],.func (.func f3) #[] #[.pointer (some ⟨w+1,0,none⟩)]] (rA aA n) (fun W=>W0=W) W0 ?_;refine Ch (w.heap.size+1+1) _ (rA aA n) (fun W=>W0=W) W0 ?_;refine Ic (w.heap.size+1+1) _ (rA aA n) (fun W=>W0=W) W0 rfl (by simp) (fun W hW=>by rw[<-hW];exact b2) ?_ rfl;rintro i fv x W jE hx hpre rfl
  match i,jE,hx,hpre with
  |0,jE,hx,_=>
   simp only[rA,oH,sj] at jE hx;subst jE hx;exact KA W0 (w+1) w 179 _ _ (.inr (.inr (.inl ⟨rfl,rfl⟩))) (UW W0 _ n b1)
  |1,jE,hx,_=>
   simp only[rA,oH,Dn,sj] at jE hx;subst jE hx;exact KA W0 (w+1) w 180 _ _ (.inr (.inr (.inr ⟨rfl,rfl⟩))) (UX W0 _ _ aA n b1 b0)
  |2,jE,hx,_=>
   simp only[rA,oH,Dn,sj] at jE hx;subst jE hx;cases hp:n.part with
   |true=>
    simp only[hp,kE] at hf3 ⊢;subst hf3;exact KA W0 (w+1) w 177 _ _ (.inr (.inl ⟨rfl,rfl⟩)) (UU W0 _ n b1)
   |false=>
    simp only[hp,mq,l7] at hf3 ⊢;subst hf3;exact KA W0 (w+1) w 176 _ _ (.inl ⟨rfl,rfl⟩) (UT W0 _ n b1)
  |i+3,jE,_,_=>simp at jE
 have aag:=hall _ bA bN bL;have qM:=ah aag;have HB:=ah hBw;have x1:=(av.new (w.alloc (.cells #[aA] 3)) 197 (nU n)).cell 1;clear hall aag bA bN bL hBw;unfold nU at*;generalize iq aA n=R at*;cases hp:n.part with
 |true=>
  rw[hp] at hf3 qM HB x1;simp only[kE] at hf3;subst hf3;have HP:=ah hp;clear hp;go_enter func139,ntmps139;go_wp2_with (go_at_call 178;refine qM.out.mono ?_;rintro e w' ⟨rfl,rfl⟩);go_ret;exact ⟨rfl,HB.out⟩
 |false=>
  rw[hp] at hf3 qM HB x1;simp only[mq,l7] at hf3;subst hf3;have HP:=ah hp;clear hp;go_enter func139,ntmps139;go_wp2_with (go_at_call 178;refine qM.out.mono ?_;rintro e w' ⟨rfl,rfl⟩);go_ret;exact ⟨rfl,HB.out⟩
theorem AR (a b:Nk):Calls prog 140 #[aA,.agg (nU a),.agg (nU b)] w fun e w'=>e= .returned (.bool (jL aA a b))/\Below w w w':=by
 have hd:=fun (x:Int) (W:World)=>Jp W aA x
 have HD:=ah hd;have hB:=((bS w w).alloc (aL) (.cells (nU a) 197)).alloc (by simp) (.cells (nU b) 197);have ba:=(av.new w 197 (nU a)).alloc (.cells (nU b) 197);have bb:=av.new (w.alloc (.cells (nU a) 197)) 197 (nU b);simp only[mZ] at bb;obtain ⟨x0,x1,x2,x3⟩:=ba.jP;obtain ⟨y0,y1,y2,y3⟩:=bb.jP;have HB:=ah hB;have hfin:jL aA a b=(decide (kr aA b.sn<kr aA a.sn)||(decide (a.sn=b.sn)&&(a.part&&(b.part&&decide (a.lt<b.fr))))):=rfl;rw[hfin];clear hd hB ba bb hfin;unfold nU at*;obtain ⟨asn,ap,af,al⟩:=a;obtain ⟨bsn,bp,bf,bl⟩:=b;dsimp only at*;by_cases hA:kr aA bsn<kr aA asn
 ·have d1:decide (kr aA bsn<kr aA asn)=true:=iK hA;rw[d1];go_enter func140,ntmps140;go_wp2_with fail
  go_quiet ((go_at_call 181;exact ve ((HD.out _ _).mono fun _ _ hh=>⟨hh.1,hh.2.symm⟩)))
  go_wp2;go_ret;exact ⟨rfl,HB.out.drewN _⟩
 have d1:decide (kr aA bsn<kr aA asn)=false:=iP hA;rw[d1];by_cases Yr:asn=bsn
 ·have e1:(asn==bsn)=true:=by simp[Yr]
  rw[iK Yr];have Om:=ah Yr;clear Yr;cases ap with
  |false=>
   go_enter func140,ntmps140;go_wp2_with fail
   go_quiet ((go_at_call 181;exact ve ((HD.out _ _).mono fun _ _ hh=>⟨hh.1,hh.2.symm⟩)))
   go_wp2;go_ret;exact ⟨rfl,HB.out.drewN _⟩
  |true=>
   cases bp with
   |false=>
    go_enter func140,ntmps140;go_wp2_with fail
    go_quiet ((go_at_call 181;exact ve ((HD.out _ _).mono fun _ _ hh=>⟨hh.1,hh.2.symm⟩)))
    go_wp2;go_ret;exact ⟨rfl,HB.out.drewN _⟩
   |true=>
    go_enter func140,ntmps140;go_wp2_with fail
    go_quiet ((go_at_call 181;exact ve ((HD.out _ _).mono fun _ _ hh=>⟨hh.1,hh.2.symm⟩)))
    go_wp2;go_ret;exact ⟨by simp,HB.out.drewN _⟩
 ·have e1:(asn==bsn)=false:=by simp[Yr]
  rw[iP Yr];go_enter func140,ntmps140;go_wp2_with fail
  go_quiet ((go_at_call 181;exact ve ((HD.out _ _).mono fun _ _ hh=>⟨hh.1,hh.2.symm⟩)))
  go_wp2;go_ret;exact ⟨rfl,HB.out.drewN _⟩
end
end Go.Proofs.YtbhiklnljiehiaaGreat
