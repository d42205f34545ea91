/- amsend: chunk: its memory; ampdu.Header. -/
import Derived.Test.YtbhiklnljiehiaaGreatM3am
import Derived.Test.YtbhiklnljiehiaaGreatM3ap
set_option maxHeartbeats 400000
namespace Go.Proofs.YtbhiklnljiehiaaGreat
open RowKit Shelf Tryz
attribute [local go_sem] Oper.semAt_some
theorem DZ (n:Int):0<=iV n/\iV n<=97:=by unfold iV;split<;>omega
def Pd (n:Int) (sg:Bool):Int:=if 0<iV n/\sg=true then iV n+2 else iV n
theorem wF (n:Int) (sg:Bool) (w:World) (h: -9223372036854775808<=n/\n<=9223372036854775807):
 Calls prog 127 #[n,.bool sg] w fun e w'=>e= .returned (.int .i64 (Pd n sg))/\w=w':=by
 have hh:=Oz n w h;have hbd:=DZ n;have hfin:Pd n sg=if 0<iV n/\sg=true then iV n+2 else iV n:=rfl
 generalize Pd n sg=R at*;generalize iV n=r at*;have HH:=ah hh;have HF:=ah hfin;clear hh hfin;cases sg
 all_goals
  by_cases h0:0<r
  all_goals
   go_enter func127,ntmps127;go_wp2_with (go_at_call 168;refine HH.out.mono ?_;rintro e1 w1 ⟨rfl,rfl⟩);go_ret;exact ⟨qY (by rw[HF.out];(try simp[h0]);(try omega)),rfl⟩
theorem Fv (n:Int):Pd n false=iV n:=by simp[Pd]
theorem RY (n:Int) (h1:1<=n) (h2:n<=64):Pd n true=iV n+2:=by
 have:0<iV n:=by unfold iV;split<;>omega
 simp[Pd,this]
theorem Yj (W:World) (x:Value) (t:TypeId):Sl (W.alloc (.cells #[x] t)) (W.alloc (.cells #[x] t)).heap.size (some ⟨W,0,none⟩) 1 1 [x]:=⟨(pG W x t).len,(pG W x t).cap,(pG W x t).mx,(pG W x t).at_⟩
structure qz (w:World) (sB e:Bool) (Ap:Option Addr) (cp:Nat) (qs:List (List UInt8)) (wr:World):Prop where
 blk:av wr w 145 #[.bool sB,.bool e,.slice Ap qs.length cp]
 parts:cZ wr w (.slice Ap qs.length cp) qs
 below:Below w w wr
section
variable {w wr:World} {sB e:Bool} {Ap:Option Addr} {cp:Nat} {qs:List (List UInt8)}
theorem qz.drewN (h:qz w sB e Ap cp qs wr) (k:Nat):qz w sB e Ap cp qs (wr.drewN k):=
 ⟨h.blk.drewN k,h.parts,h.below.drewN k⟩
theorem qz.new (w:World):qz w false false none 0 [] (w.alloc (.cells #[.bool false,.bool false,.slice none 0 0] 145)):=
 ⟨av.new _ _ _,⟨[],jl _ _ _ _,fun i p hi=>by simp at hi⟩,(bS _ w).alloc (aL) _⟩
theorem qz.set0 (h:qz w sB e Ap cp qs wr) (b:Bool):qz w b e Ap cp qs (wr.setCell w (.bool b)):=
 ⟨by simpa using h.blk.ay 0 (.bool b),h.parts.store h.blk (by decide) (by decide) _,h.below.setCell (p:=⟨w,0,none⟩) (aL) _⟩
theorem qz.set1 (h:qz w sB e Ap cp qs wr) (b:Bool):qz w sB b Ap cp qs (wr.setCell ⟨w,1,none⟩ (.bool b)):=
 ⟨by simpa using h.blk.ay 1 (.bool b),h.parts.store h.blk (by decide) (by decide) _,h.below.setCell (p:=⟨w,1,none⟩) (aL) _⟩
theorem qz.set2 (h:qz w sB e Ap cp qs wr):qz w sB e Ap cp qs (wr.setCell ⟨w,2,none⟩ (.slice Ap qs.length cp)):=
 ⟨by simpa using h.blk.ay 2 (.slice Ap qs.length cp),h.parts.store h.blk (by decide) (by decide) _,h.below.setCell (p:=⟨w,2,none⟩) (aL) _⟩
theorem qz.push (h:qz w sB e Ap cp qs wr) {w1 w5:World} {A1 A5:Option Addr} {c1 c5 L:Nat} {Fe:List Value} {pp:List UInt8} (hpl:pp.length=L)
 (kG:wr.ownsRow w 31 1 (.slice Ap qs.length cp) qs.length Fe)
 (hpx:∀(i:Nat) (p:List UInt8),qs[i]? =some p->∃A c,Fe[i]? =some (.slice A p.length c)/\wr.ownsRow w 5 1 (.slice A p.length c) p.length (dz p))
 (hb1:Below wr wr w1) (hv1:w1.ownsRow wr 5 1 (.slice A1 L c1) L (dz pp))
 (hown5:w5.ownsRow w 31 1 (.slice A5 (qs.length+1) c5) (qs.length+1) (Fe++ [.slice A1 L c1]))
 (dV:(w1.alloc (.cells #[.slice A1 L c1] 31)).grownBy w5 (Value.slice Ap qs.length cp).ownBlock):
 qz w sB e A5 c5 (qs++ [pp]) (w5.setCell ⟨w,2,none⟩ (.slice A5 (qs.length+1) c5)):=by
 have hz:=h.below.size;have abX:=(own_below kG hb1 (aL)).alloc (.cells #[.slice A1 L c1] 31);have b5:=((h.blk.below hb1 h.blk.lt).alloc (.cells #[.slice A1 L c1] 31)).grown dV (fun e=>aK kG h.blk (by decide) e.symm);have hl:(qs++ [pp]).length=qs.length+1:=by simp
 have qw:Below w w w5:=((h.below.trans (hb1.mono hz)).alloc (by have:=hb1.size;omega) _).grown dV (by have:=hb1.size;simp;omega) (fun j hj=>(kG.lt j hj).1);have UJ:∀{A:Option Addr} {c:Nat} {p:List UInt8} {base:Nat},w1.ownsRow base 5 1 (.slice A p.length c) p.length (dz p)->(w5.setCell ⟨w,2,none⟩ (.slice A5 (qs.length+1) c5)).ownsRow base 5 1 (.slice A p.length c) p.length (dz p):=fun {A c p base} h5=>by
  have h6:=(h5.alloc (.cells #[.slice A1 L c1] 31)).kept dV (by
   rcases hq:(Value.slice A p.length c).ownBlock with _|j
   ·exact .inl rfl
   ·refine .inr (fun e=> ?_);obtain ⟨o1,ho1,⟨cs1,fr1,rfl⟩,_⟩:=dR h5 hq;obtain ⟨o2,ho2,⟨cs2,fr2,rfl⟩,_⟩:=dR (own_below kG hb1 (aL)) e.symm;rw[ho1] at ho2;cases ho2)
  exact aN (i:=2) h6 b5 (by decide) _
 refine ⟨by rw[hl];simpa using b5.ay 2 (.slice A5 (qs.length+1) c5),⟨Fe++ [.slice A1 L c1],by rw[hl];exact aN (i:=2) hown5 b5 (by decide) _,fun i p hi=> ?_⟩,qw.setCell (p:=⟨w,2,none⟩) (aL) _⟩;have hvl:Fe.length=qs.length:=(gK kG).len;by_cases hi2:i<qs.length
 ·rw[mh hi2] at hi;obtain ⟨A,c,e1,h5⟩:=hpx i p hi;exact ⟨A,c,by rw[mh (by omega)];exact e1,UJ (own_below h5 hb1 (aL))⟩
 ·rw[oI (by omega)] at hi;have hi0:i=qs.length:=by
   have:=(pN.1 hi).1;simp at this;omega
  subst hi0;simp at hi;subst hi;subst hpl;refine ⟨A1,c1,?_,UJ (bF hv1 hz)⟩;rw[oI (by omega),hvl];simp
end
def wG (qs:List (List UInt8)):Nat:=(qs.getLast?.getD []).length
theorem Pe (qs:List (List UInt8)) (q:List UInt8):wG (qs++ [q])=q.length:=by simp[wG]
theorem UL {qs:List (List UInt8)} {q:List UInt8} (h:qs[qs.length-1]? =some q):wG qs=q.length:=by
 unfold wG;rw[List.getLast?_eq_getElem?,h];rfl
theorem MJ:∀(l:List (List UInt8)),(∀s∈l,1<=s.length)->aI l 0=(l,0)
 | [],_=>rfl
 |x::r,h=>by
  have:=h x (by simp);unfold aI;rw[aP (by omega)]
def QN (w:World) (ST:Bool) (FIN:List (List UInt8) × Bool) (en:Ending) (w':World):Prop:=
 ∃Ap cp sB,en= .returned (.agg #[.bool sB,.bool FIN.2,.slice Ap FIN.1.length cp])/\cZ w' w (.slice Ap FIN.1.length cp) FIN.1/\Below w w w'/\(FIN.1≠ []->sB=ST)
theorem jM (p:List UInt8) (ps:List (List UInt8)):aj (p::ps)=p.length+aj ps:=by simp[aj]
def oh:List (List UInt8)->Nat->Nat->List (List UInt8)
 | [],_,_=> []
 |p::ps,x,y=>if x<min p.length y then (p.take y).drop x::oh ps (x-p.length) (y-p.length) else oh ps (x-p.length) (y-p.length)
def wm:List (List UInt8)->Bool->Nat->Bool
 | [],_,_=>false
 |p::ps,s,x=>(decide (x=0)&&s)||(decide (p.length<=x)&&wm ps true (x-p.length))
def Me:List (List UInt8)->Bool->Nat->Bool
 | [],_,_=>false
 |p::ps,e,y=>(decide (y=p.length)&&(decide (0<ps.length)||e))||(decide (p.length<=y)&&Me ps e (y-p.length))
theorem IY:∀(ps:List (List UInt8)) (x:Nat),oh ps x 0= []
 | [],_=>rfl
 |p::ps,x=>by simp[oh,IY ps]
theorem zT:∀(ps:List (List UInt8)) (x y:Nat),(oh ps x y).flatten=(ps.flatten.take y).drop x
 | [],_,_=>by simp[oh]
 |p::ps,x,y=>by
  have ih:=zT ps (x-p.length) (y-p.length);rw[List.flatten_cons,List.take_append,List.drop_append,kz];simp only[oh];by_cases hx:x<min p.length y
  ·rw[bD hx,List.flatten_cons,ih]
   congr 1
   by_cases hy:p.length<=y
   ·rw[show x-min y p.length=x-p.length by omega]
   ·rw[show y-p.length=0 by omega];simp
  ·rw[aP hx,ih,List.drop_of_length_le (i:=x) (l:=p.take y) (by simp;omega)];by_cases hy:p.length<=y
   ·rw[show x-min y p.length=x-p.length by omega];simp
   ·rw[show y-p.length=0 by omega];simp
theorem EM (ps:List (List UInt8)) (x y:Nat) (h:y<=aj ps):aj (oh ps x y)=y-x:=by
 rw[<-jH,zT,kC,kz,jH];omega
theorem EN:∀(ps:List (List UInt8)) (x y:Nat),∀q∈oh ps x y,1<=q.length
 | [],_,_,q,hq=>by simp[oh] at hq
 |p::ps,x,y,q,hq=>by
  simp only[oh] at hq;by_cases hx:x<min p.length y
  ·rw[bD hx,nE] at hq;rcases hq with rfl|hq
   ·simp;omega
   ·exact EN ps _ _ q hq
  ·rw[aP hx] at hq;exact EN ps _ _ q hq
theorem wu:∀(ps:List (List UInt8)) (x y:Nat),(oh ps x y).length<=ps.length
 | [],_,_=>by simp[oh]
 |p::ps,x,y=>by
  have:=wu ps (x-p.length) (y-p.length);simp only[oh];split
  ·simp;omega
  ·simp;omega
theorem EO:∀(ps:List (List UInt8)) (x y:Nat),(∀i,i+1<ps.length->(ps[i]?.getD []).length<=2047)->∀i,i+1<(oh ps x y).length->((oh ps x y)[i]?.getD []).length<=2047
 | [],_,_,_,i,hi=>by simp[oh] at hi
 |p::ps,x,y,h,i,hi=>by
  have hr:∀i,i+1<ps.length->(ps[i]?.getD []).length<=2047:=fun i hi=>by
   have:=h (i+1) (by simp;omega);simpa using this
  have ih:=EO ps (x-p.length) (y-p.length) hr;have hl:=wu ps (x-p.length) (y-p.length);simp only[oh] at hi ⊢;by_cases hx:x<min p.length y
  ·rw[bD hx] at hi ⊢;cases i with
   |zero=>
    have:=h 0 (by simp at hi ⊢;omega);simp at this ⊢;omega
   |succ i=>
    have:=ih i (by simp at hi;omega);simpa using this
  ·rw[aP hx] at hi ⊢;exact ih i hi
theorem QD (ps:List (List UInt8)) (x y:Nat) (h:x<y) (hy:y<=aj ps):1<=(oh ps x y).length:=by
 have:=EM ps x y hy;rcases oV (oh ps x y).length with h0|h0
 ·rw[List.length_eq_zero_iff] at h0;rw[h0] at this;simp[aj] at this;omega
 ·exact h0
theorem OE (ps:List (List UInt8)) (x y:Nat) (hv:qh ps) (h:x<y) (hy:y<=aj ps):qh (oh ps x y):=
 ⟨QD ps x y h hy,gG (wu ps x y) hv.hi,EN ps x y,EO ps x y hv.short,by rw[EM ps x y hy];have:=hv.sum;omega⟩
theorem RD:∀(ps:List (List UInt8)) (e:Bool),(∀p∈ps,1<=p.length)->Me ps e 0=false
 | [],_,_=>rfl
 |p::ps,e,hp=>by
  have hp1:=hp p (by simp);simp only[Me];rw[iP (p:=0=p.length) (by omega),iP (p:=p.length<=0) (by omega)];rfl
theorem Kc (p:List UInt8) (ps:List (List UInt8)) (off fr till k:Nat):o9 (p::ps) off fr till (k+1)=o9 ps (off+p.length) fr till k:=by
 unfold o9;simp only[kJ,jM,zH]
theorem Ke (p:List UInt8) (ps:List (List UInt8)) (off fr till k:Nat):um (p::ps) off fr till (k+1)=um ps (off+p.length) fr till k:=by
 unfold um;simp only[kJ,jM,zH,Dn]
theorem xZ (p:List UInt8) (ps:List (List UInt8)) (off fr till:Nat):∀k,aO (p::ps) off fr till (k+1)=(if o9 (p::ps) off fr till 0 then [um (p::ps) off fr till 0] else [])++aO ps (off+p.length) fr till k
 |0=>by
  simp only[aO];split<;>simp
 |k+1=>by
  have ih:=xZ p ps off fr till k;rw[aO,ih,Kc,Ke]
  conv=>rhs;rw[aO]
  split<;>split<;>simp
theorem nT:∀(ps:List (List UInt8)) (off fr till:Nat),aO ps off fr till ps.length=oh ps (fr-off) (till-off)
 | [],_,_,_=>rfl
 |p::ps,off,fr,till=>by
  have ih:=nT ps (off+p.length) fr till;rw[jh,xZ,ih,oh,show fr-(off+p.length)=fr-off-p.length by omega,show till-(off+p.length)=till-off-p.length by omega];have hh:o9 (p::ps) off fr till 0=decide (fr-off<min p.length (till-off)):=by
   unfold o9;simp only[nu,kJ,jM,EC];rw[mr];simp only[gY];omega
  rw[hh];by_cases hx:fr-off<min p.length (till-off)
  ·rw[bD (by simpa using hx),bD hx,List.singleton_append]
   congr 1
   unfold um;simp only[nu,kJ,jM,EC,oH,Cy,uf];rw[List.take_drop,show max off fr-off=fr-off by omega]
   congr 1
   by_cases h1:p.length<=till-off
   ·rw[kI (by omega),kI h1]
   ·congr 1;omega
  ·rw[aP (by simpa using hx),aP hx,pY]
theorem wD (p:List UInt8) (ps:List (List UInt8)) (s:Bool) (off fr:Nat):∀k,bQ (p::ps) s off fr (k+1)=((decide (off=fr)&&s)||bQ ps true (off+p.length) fr k)
 |0=>by simp[bQ,aj]
 |k+1=>by
  rw[bQ,wD p ps s off fr k]
  conv=>rhs;rw[bQ]
  simp only[kJ,jM,zH,Bool.or_assoc,Nat.zero_lt_succ,decide_true,Bool.true_or,Bool.or_true,Bool.and_true]
theorem sJ:∀(ps:List (List UInt8)) (s:Bool) (off fr:Nat),bQ ps s off fr ps.length=(decide (off<=fr)&&wm ps s (fr-off))
 | [],_,_,_=>by simp[bQ,wm]
 |p::ps,s,off,fr=>by
  rw[jh,wD,sJ ps true (off+p.length) fr];simp only[wm];rw[show fr-(off+p.length)=fr-off-p.length by omega];by_cases h:off<=fr
  ·rw[show decide (off<=fr)=true by simpa using h,show decide (off=fr)=decide (fr-off=0) by rw[mr];simp;omega,show decide (off+p.length<=fr)=decide (p.length<=fr-off) by rw[mr];simp;omega];simp
  ·rw[show decide (off<=fr)=false by simpa using h,show decide (off=fr)=false by simp;omega,show decide (off+p.length<=fr)=false by simp;omega];simp
theorem zU (p:List UInt8) (ps:List (List UInt8)) (e:Bool) (off till:Nat):∀k,dN (p::ps) e off till (k+1)=((decide (off+p.length=till)&&(decide (0<ps.length)||e))||dN ps e (off+p.length) till k)
 |0=>by simp[dN,aj]
 |k+1=>by
  rw[dN,zU p ps e off till k]
  conv=>rhs;rw[dN]
  simp only[kJ,jM,zH,Bool.or_assoc,jh];rw[show decide (k+(1+1)<ps.length+1)=decide (k+1<ps.length) by rw[mr];simp only[gY];omega]
theorem zV:∀(ps:List (List UInt8)) (e:Bool) (off till:Nat),dN ps e off till ps.length=(decide (off<=till)&&Me ps e (till-off))
 | [],_,_,_=>by simp[dN,Me]
 |p::ps,e,off,till=>by
  rw[jh,zU,zV ps e (off+p.length) till];simp only[Me];rw[show till-(off+p.length)=till-off-p.length by omega];by_cases h:off<=till
  ·rw[show decide (off<=till)=true by simpa using h,show decide (off+p.length=till)=decide (till-off=p.length) by rw[mr];simp;omega,show decide (off+p.length<=till)=decide (p.length<=till-off) by rw[mr];simp;omega];simp
  ·rw[show decide (off<=till)=false by simpa using h,show decide (off+p.length=till)=false by simp;omega,show decide (off+p.length<=till)=false by simp;omega];simp
theorem zW (ps:List (List UInt8)) (off a d:Nat) (h0:off<=a) (h4:d<=off+aj ps):aj (aO ps off a d ps.length)=d-a:=by
 rw[nT,EM _ _ _ (by omega)];omega
theorem sK (ps:List (List UInt8)) (off a d:Nat) (hv:qh ps) (h0:off<=a) (h1:a<d) (h4:d<=off+aj ps):qh (aO ps off a d ps.length):=by
 rw[nT];exact OE ps _ _ hv (by omega) (by omega)
end Go.Proofs.YtbhiklnljiehiaaGreat
