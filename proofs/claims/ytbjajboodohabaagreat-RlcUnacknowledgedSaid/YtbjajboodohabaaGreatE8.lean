/- RlcUnacknowledged: an entity, a transmitter and a receiver beside each other. -/
import Derived.Test.YtbjajboodohabaaGreatE7
import Derived.Test.YtbjajboodohabaaGreatE5
namespace Go.Proofs.YtbjajboodohabaaGreat
open Go.RowKit Go.Shelf
attribute [local go_sem] Oper.semAt_some
/-- the four components -/
def PP (base s1 s2 r1 r2 : Nat) (u1 u2 : Us) (n1 n2 : Nat) (t1 t2 : Rs) : Fin 4 → (Nat → Prop) → World → Prop
  | 0 => SndP base s1 u1
  | 1 => SndP base s2 u2
  | 2 => RcvP base r1 n1 t1
  | 3 => RcvP base r2 n2 t2
structure Ids where
  g : Nat
  u : Nat
  s1 : Nat
  s2 : Nat
  r1 : Nat
  r2 : Nat
/-- all of it -/
structure LM (w : World) (E : Nat → Prop) (X : Ids) (u1 u2 : Us) (n1 n2 : Nat) (t1 t2 : Rs) (F : Fin 4 → Nat → Prop) (W : World) : Prop where
  bag : Bag w.heap.size E (PP w.heap.size X.s1 X.s2 X.r1 X.r2 u1 u2 n1 n2 t1 t2) F W
  ent : UEnt W X.g X.u X.s1 X.r1
  eg : E X.g
  eu : E X.u
  bel : Below w.heap.size w W
section
variable {w W W' : World} {E : Nat → Prop} {X : Ids} {u1 u2 : Us} {n1 n2 k : Nat} {t1 t2 : Rs} {F : Fin 4 → Nat → Prop}
theorem pp_far {base s1 s2 r1 r2 : Nat} : ∀ i, FarP (PP base s1 s2 r1 r2 u1 u2 n1 n2 t1 t2 i)
  | 0 => sndP_far _ _ _
  | 1 => sndP_far _ _ _
  | 2 => rcvP_far _ _ _ _
  | 3 => rcvP_far _ _ _ _
theorem pp_lt {base s1 s2 r1 r2 : Nat} : ∀ i, LtP (PP base s1 s2 r1 r2 u1 u2 n1 n2 t1 t2 i)
  | 0 => sndP_lt _ _ _
  | 1 => sndP_lt _ _ _
  | 2 => rcvP_lt _ _ _ _
  | 3 => rcvP_lt _ _ _ _
theorem pp_put0 {base s1 s2 r1 r2 : Nat} (u : Us) : putP (PP base s1 s2 r1 r2 u1 u2 n1 n2 t1 t2) 0 (SndP base s1 u) = PP base s1 s2 r1 r2 u u2 n1 n2 t1 t2 := by
  funext i
  match i with
  | 0 => rfl
  | 1 => rfl
  | 2 => rfl
  | 3 => rfl
theorem pp_put1 {base s1 s2 r1 r2 : Nat} (u : Us) : putP (PP base s1 s2 r1 r2 u1 u2 n1 n2 t1 t2) 1 (SndP base s2 u) = PP base s1 s2 r1 r2 u1 u n1 n2 t1 t2 := by
  funext i
  match i with
  | 0 => rfl
  | 1 => rfl
  | 2 => rfl
  | 3 => rfl
theorem pp_put2 {base s1 s2 r1 r2 : Nat} (n : Nat) (t : Rs) : putP (PP base s1 s2 r1 r2 u1 u2 n1 n2 t1 t2) 2 (RcvP base r1 n t) = PP base s1 s2 r1 r2 u1 u2 n n2 t t2 := by
  funext i
  match i with
  | 0 => rfl
  | 1 => rfl
  | 2 => rfl
  | 3 => rfl
theorem pp_put3 {base s1 s2 r1 r2 : Nat} (n : Nat) (t : Rs) : putP (PP base s1 s2 r1 r2 u1 u2 n1 n2 t1 t2) 3 (RcvP base r2 n t) = PP base s1 s2 r1 r2 u1 u2 n1 n t1 t := by
  funext i
  match i with
  | 0 => rfl
  | 1 => rfl
  | 2 => rfl
  | 3 => rfl
theorem LM.below (h : LM w E X u1 u2 n1 n2 t1 t2 F W) (hb : Below W.heap.size W W') : LM w E X u1 u2 n1 n2 t1 t2 F W' :=
  ⟨h.bag.below pp_far hb, h.ent.below hb, h.eg, h.eu, h.bel.trans (hb.mono h.bel.size)⟩
theorem LM.lt (h : LM w E X u1 u2 n1 n2 t1 t2 F W) {i : Fin 4} {j : Nat} (hj : F i j) : j < W.heap.size := h.bag.size pp_lt hj
/-- what a call keeps -/
theorem LM.keep (h : LM w E X u1 u2 n1 n2 t1 t2 F W) {i : Fin 4} (hk : Kept (OnF (F i)) W W') {j : Nat} (hj : E j) : W'.heap[j]? = W.heap[j]? := by
  have ho := Array.getElem?_eq_getElem (h.bag.ent j hj)
  rw [hk.same _ _ ho fun e => (h.bag.ge i j e.1).2 hj, ho]
theorem LM.addE (h : LM w E X u1 u2 n1 n2 t1 t2 F W) (hb : Below W.heap.size W W') {j : Nat} (h1 : W.heap.size ≤ j) (h2 : j < W'.heap.size) : LM w (fun k => E k ∨ k = j) X u1 u2 n1 n2 t1 t2 F W' := by
  have h' := h.below hb
  exact ⟨⟨h'.bag.p, h'.bag.dis, fun i k hk => ⟨(h'.bag.ge i k hk).1, fun e => e.elim (h'.bag.ge i k hk).2 fun e => by have := h.lt hk; omega⟩, fun k hk => hk.elim (h'.bag.ent k) fun e => by omega⟩, h'.ent, .inl h.eg, .inl h.eu, h'.bel⟩
theorem LM.lessE {E' : Nat → Prop} (h : LM w E X u1 u2 n1 n2 t1 t2 F W) (hE : ∀ k, E' k → E k) (hg : E' X.g) (hu : E' X.u) : LM w E' X u1 u2 n1 n2 t1 t2 F W :=
  ⟨⟨h.bag.p, h.bag.dis, fun i k hk => ⟨(h.bag.ge i k hk).1, fun e => (h.bag.ge i k hk).2 (hE k e)⟩, fun k hk => h.bag.ent k (hE k hk)⟩, h.ent, hg, hu, h.bel⟩
/-- one component is called: the bag behind it -/
theorem LM.call (h : LM w E X u1 u2 n1 n2 t1 t2 F W) (i : Fin 4) {Q : (Nat → Prop) → World → Prop} (hc : CallF Q (F i) W W') :
    ∃ G, Bag w.heap.size E (putP (PP w.heap.size X.s1 X.s2 X.r1 X.r2 u1 u2 n1 n2 t1 t2) i Q) (putP F i G) W' ∧ Kept (OnF (F i)) W W' ∧ UEnt W' X.g X.u X.s1 X.r1 ∧ Below w.heap.size w W' := by
  have hc2 := hc
  obtain ⟨G, hQ, hg, hk⟩ := hc2
  obtain ⟨hB, hb⟩ := h.bag.callG pp_far pp_lt h.bel.size i hQ hg hk
  exact ⟨G, hB, hk, h.ent.stay (h.keep hk h.eg) (h.keep hk h.eu), h.bel.trans hb⟩
/-- what a call on component i leaves -/
def Nx (w : World) (E : Nat → Prop) (X : Ids) (u1 u2 : Us) (n1 n2 : Nat) (t1 t2 : Rs) (F : Fin 4 → Nat → Prop) (i : Fin 4) (W W' : World) : Prop :=
  ∃ G, LM w E X u1 u2 n1 n2 t1 t2 (putP F i G) W' ∧ Kept (OnF (F i)) W W'
theorem LM.nx0 (h : LM w E X u1 u2 n1 n2 t1 t2 F W) {u : Us} (hc : CallF (SndP w.heap.size X.s1 u) (F 0) W W') : Nx w E X u u2 n1 n2 t1 t2 F 0 W W' := by
  obtain ⟨G, hB, hk, he, hb⟩ := h.call 0 hc
  rw [pp_put0] at hB
  exact ⟨G, ⟨hB, he, h.eg, h.eu, hb⟩, hk⟩
theorem LM.nx1 (h : LM w E X u1 u2 n1 n2 t1 t2 F W) {u : Us} (hc : CallF (SndP w.heap.size X.s2 u) (F 1) W W') : Nx w E X u1 u n1 n2 t1 t2 F 1 W W' := by
  obtain ⟨G, hB, hk, he, hb⟩ := h.call 1 hc
  rw [pp_put1] at hB
  exact ⟨G, ⟨hB, he, h.eg, h.eu, hb⟩, hk⟩
theorem LM.nx2 (h : LM w E X u1 u2 n1 n2 t1 t2 F W) {n : Nat} {t : Rs} (hc : CallF (RcvP w.heap.size X.r1 n t) (F 2) W W') : Nx w E X u1 u2 n n2 t t2 F 2 W W' := by
  obtain ⟨G, hB, hk, he, hb⟩ := h.call 2 hc
  rw [pp_put2] at hB
  exact ⟨G, ⟨hB, he, h.eg, h.eu, hb⟩, hk⟩
theorem LM.nx3 (h : LM w E X u1 u2 n1 n2 t1 t2 F W) {n : Nat} {t : Rs} (hc : CallF (RcvP w.heap.size X.r2 n t) (F 3) W W') : Nx w E X u1 u2 n1 n t1 t F 3 W W' := by
  obtain ⟨G, hB, hk, he, hb⟩ := h.call 3 hc
  rw [pp_put3] at hB
  exact ⟨G, ⟨hB, he, h.eg, h.eu, hb⟩, hk⟩
/-- bytes that a grant gave -/
def GrA (b : Nat) (bs : List UInt8) (er : Int) (e : Ending) (w' : World) : Prop := ∃ vb, e = .returned (.tuple #[vb, .int .i64 er]) ∧ w'.ownsRow b 5 1 vb bs.length (bvs bs)
/-- SDUs that were returned -/
def OuA (b : Nat) (outs : List (List UInt8)) (er : Int) (e : Ending) (w' : World) : Prop := ∃ vo lo, e = .returned (.tuple #[vo, .int .i64 er]) ∧ OutIs w' b lo vo outs
theorem lm_submit1 (h : LM w E X u1 u2 n1 n2 t1 t2 F W) (ho : UsOk u1 k) (hk : k ≤ 100) {A : Option Addr} {n c : Nat} {x : List UInt8} (hx : Sl W W.heap.size A n c (bvs x)) :
    Calls Tryz.prog 9 #[.pointer (some ⟨X.g, 0, none⟩), .slice A n c] W fun e w' => e = .returned (.int .i64 (subU u1 x).2) ∧ Nx w E X (subU u1 x).1 u2 n1 n2 t1 t2 F 0 W w' :=
  usubmit_of h.ent A n c _ _ ((sndP_submit (h.bag.p 0) ho hk h.bel.size hx).mono fun _ _ hh => ⟨hh.1, h.nx0 hh.2⟩)
theorem lm_submit2 (h : LM w E X u1 u2 n1 n2 t1 t2 F W) (ho : UsOk u2 k) (hk : k ≤ 100) {A : Option Addr} {n c : Nat} {x : List UInt8} (hx : Sl W W.heap.size A n c (bvs x)) :
    Calls Tryz.prog 10 #[.pointer (some ⟨X.s2, 0, none⟩), .slice A n c] W fun e w' => e = .returned (.int .i64 (subU u2 x).2) ∧ Nx w E X u1 (subU u2 x).1 n1 n2 t1 t2 F 1 W w' :=
  (sndP_submit (h.bag.p 1) ho hk h.bel.size hx).mono fun _ _ hh => ⟨hh.1, h.nx1 hh.2⟩
theorem lm_grant1 (h : LM w E X u1 u2 n1 n2 t1 t2 F W) (ho : UsOk u1 k) (now n : Int) (hn : n ≤ 9223372036854775807) :
    Calls Tryz.prog 11 #[.pointer (some ⟨X.g, 0, none⟩), .int .i64 now, .int .i64 n] W fun e w' => GrA W.heap.size (grU u1 n).2.1 (grU u1 n).2.2 e w' ∧ Nx w E X (grU u1 n).1 u2 n1 n2 t1 t2 F 0 W w' :=
  ugrant_of h.ent now n _ (fun _ _ hh => let ⟨_, e, _⟩ := hh.1; ⟨_, _, e⟩) ((sndP_grant (h.bag.p 0) ho n hn).mono fun _ _ ⟨vb, h1, h2, h3⟩ => ⟨⟨vb, h1, h2⟩, h.nx0 h3⟩)
theorem lm_grant2 (h : LM w E X u1 u2 n1 n2 t1 t2 F W) (ho : UsOk u2 k) (n : Int) (hn : n ≤ 9223372036854775807) :
    Calls Tryz.prog 12 #[.pointer (some ⟨X.s2, 0, none⟩), .int .i64 n] W fun e w' => GrA W.heap.size (grU u2 n).2.1 (grU u2 n).2.2 e w' ∧ Nx w E X u1 (grU u2 n).1 n1 n2 t1 t2 F 1 W w' :=
  (sndP_grant (h.bag.p 1) ho n hn).mono fun _ _ ⟨vb, h1, h2, h3⟩ => ⟨⟨vb, h1, h2⟩, h.nx1 h3⟩
theorem lm_recv1 (h : LM w E X u1 u2 n1 n2 t1 t2 F W) (now : Int) (hn : now ≤ 9223372036854775807) {A : Option Addr} {nn c : Nat} {bs : List UInt8} (hs : Sl W W.heap.size A nn c (bvs bs)) (hnn : nn ≤ 1000000) (hroom : n1 < 9223372036854775807) :
    Calls Tryz.prog 13 #[.pointer (some ⟨X.g, 0, none⟩), .int .i64 now, .slice A nn c] W fun e w' => OuA W.heap.size (recvB t1 now bs).2.1 (recvB t1 now bs).2.2 e w' ∧ Nx w E X u1 u2 (n1 + 1) n2 (recvB t1 now bs).1 t2 F 2 W w' :=
  ureceive_of h.ent now A nn c _ (fun _ _ hh => let ⟨_, _, e, _⟩ := hh.1; ⟨_, _, e⟩) ((rcvP_receive (h.bag.p 2) now hn hs hnn hroom).mono fun _ _ ⟨vo, lo, h1, h2, h3⟩ => ⟨⟨vo, lo, h1, h2⟩, h.nx2 h3⟩)
theorem lm_recv2 (h : LM w E X u1 u2 n1 n2 t1 t2 F W) (now : Int) (hn : now ≤ 9223372036854775807) {A : Option Addr} {nn c : Nat} {bs : List UInt8} (hs : Sl W W.heap.size A nn c (bvs bs)) (hnn : nn ≤ 1000000) (hroom : n2 < 9223372036854775807) :
    Calls Tryz.prog 14 #[.pointer (some ⟨X.r2, 0, none⟩), .int .i64 now, .slice A nn c] W fun e w' => OuA W.heap.size (recvB t2 now bs).2.1 (recvB t2 now bs).2.2 e w' ∧ Nx w E X u1 u2 n1 (n2 + 1) t1 (recvB t2 now bs).1 F 3 W w' :=
  (rcvP_receive (h.bag.p 3) now hn hs hnn hroom).mono fun _ _ ⟨vo, lo, h1, h2, h3⟩ => ⟨⟨vo, lo, h1, h2⟩, h.nx3 h3⟩
theorem lm_tick1 (h : LM w E X u1 u2 n1 n2 t1 t2 F W) (now : Int) (hn : now ≤ 9223372036854775807) :
    Calls Tryz.prog 16 #[.pointer (some ⟨X.g, 0, none⟩), .int .i64 now] W fun e w' => OuA W.heap.size (goesP t1 now).2 0 e w' ∧ Nx w E X u1 u2 n1 n2 (goesP t1 now).1 t2 F 2 W w' :=
  utick_of h.ent now _ (fun _ _ hh => let ⟨_, _, e, _⟩ := hh.1; ⟨_, _, e⟩) ((rcvP_tick (h.bag.p 2) now hn).mono fun _ _ ⟨vo, lo, h1, h2, h3⟩ => ⟨⟨vo, lo, h1, h2⟩, h.nx2 h3⟩)
theorem lm_tick2 (h : LM w E X u1 u2 n1 n2 t1 t2 F W) (now : Int) (hn : now ≤ 9223372036854775807) :
    Calls Tryz.prog 17 #[.pointer (some ⟨X.r2, 0, none⟩), .int .i64 now] W fun e w' => OuA W.heap.size (goesP t2 now).2 0 e w' ∧ Nx w E X u1 u2 n1 n2 t1 (goesP t2 now).1 F 3 W w' :=
  (rcvP_tick (h.bag.p 3) now hn).mono fun _ _ ⟨vo, lo, h1, h2, h3⟩ => ⟨⟨vo, lo, h1, h2⟩, h.nx3 h3⟩
theorem lm_buf1 (h : LM w E X u1 u2 n1 n2 t1 t2 F W) (ho : UsOk u1 k) (hk : k ≤ 100) : Calls Tryz.prog 18 #[.pointer (some ⟨X.g, 0, none⟩)] W fun e w' => e = .returned (.int .i64 (bufU u1)) ∧ Below W.heap.size W w' :=
  ubuffered_of h.ent _ _ (sndP_buffered (h.bag.p 0) ho hk)
theorem lm_buf2 (h : LM w E X u1 u2 n1 n2 t1 t2 F W) (ho : UsOk u2 k) (hk : k ≤ 100) : Calls Tryz.prog 19 #[.pointer (some ⟨X.s2, 0, none⟩)] W fun e w' => e = .returned (.int .i64 (bufU u2)) ∧ Below W.heap.size W w' :=
  sndP_buffered (h.bag.p 1) ho hk
/-- bytes stay, whoever is called -/
theorem own_onF {b : Nat} {v : Value} {n : Nat} {xs : List Value} {G : Nat → Prop} (h : W.ownsRow b 5 1 v n xs) (hk : Kept (OnF G) W W') : W'.ownsRow b 5 1 v n xs := own_kept h hk fun _ _ hr _ e => e.2 hr
theorem out_onF {b lo : Nat} {v : Value} {outs : List (List UInt8)} {G : Nat → Prop} (h : OutIs W b lo v outs) (hG : ∀ k, G k → k < b) (hk : Kept (OnF G) W W') : OutIs W' b lo v outs := by
  obtain ⟨vs, h1, h2⟩ := h
  refine ⟨vs, own_kept h1 hk fun j o _ hj e => ?_, fun i q hi => let ⟨vi, e, ho⟩ := h2 i q hi; ⟨vi, e, own_onF ho hk⟩⟩
  rcases h1.2 with ⟨rfl, _⟩ | ⟨g', cap, cur, rfl, hb, _⟩
  · simp [Value.ownBlock] at hj
  · have : g' = j := by simpa [Value.ownBlock] using hj
    have := hG j e.1
    omega
end
end Go.Proofs.YtbjajboodohabaaGreat
