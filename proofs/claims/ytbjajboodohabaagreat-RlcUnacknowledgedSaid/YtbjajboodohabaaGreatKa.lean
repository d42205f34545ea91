/- law31: calls as values; few; gives. -/
import Derived.Test.YtbjajboodohabaaGreatJ9
namespace Go.Proofs.YtbjajboodohabaaGreat
open Go.RowKit Go.Shelf
attribute [local go_sem] Oper.semAt_some

/-- a call as a value: its bytes (in memory), whether they may be empty, its number -/
structure ActV where
  A : Option Addr
  b : List UInt8
  c : Nat
  e : Bool
  k : Int
/-- a slice of calls -/
structure SlA (w : World) (B : Nat) (A : Option Addr) (n c : Nat) (l : List ActV) : Prop where
  len : l.length = n
  cap : n ≤ c
  mx : c ≤ 9223372036854775807
  at_ : 0 < n → ∃ ad, A = some ad ∧ ad.block < B ∧ ∀ j x, l[j]? = some x → w.cell? (ad.add (j * 3)) = some (.slice x.A x.b.length x.c) ∧ w.cell? (ad.add (j * 3 + 1)) = some (.bool x.e) ∧ w.cell? (ad.add (j * 3 + 2)) = some (.int .i64 x.k) ∧ Sl w B x.A x.b.length x.c (bvs x.b) ∧ -9223372036854775808 ≤ x.k ∧ x.k ≤ 9223372036854775807
theorem SlA.keep {w w' : World} {B n c : Nat} {A : Option Addr} {l : List ActV} (h : SlA w B A n c l) (hk : ∀ p : Addr, p.block < B → w'.cell? p = w.cell? p) : SlA w' B A n c l :=
  ⟨h.len, h.cap, h.mx, fun hn => by
    obtain ⟨ad, e, hb, hc⟩ := h.at_ hn
    refine ⟨ad, e, hb, fun j x hj => ?_⟩
    obtain ⟨h1, h2, h3, h4, h5⟩ := hc j x hj
    exact ⟨(hk _ (by rw [block_add]; exact hb)).trans h1, (hk _ (by rw [block_add]; exact hb)).trans h2, (hk _ (by rw [block_add]; exact hb)).trans h3, h4.keep hk, h5⟩⟩
theorem SlA.below {w w' : World} {B n c : Nat} {A : Option Addr} {l : List ActV} (h : SlA w B A n c l) (hb : Below B w w') : SlA w' B A n c l := h.keep fun _ hp => hb.cell hp
theorem SlA.get {w : World} {B n c : Nat} {A : Option Addr} {l : List ActV} (h : SlA w B A n c l) {j : Nat} (hj : j < n) : ∃ ad x, A = some ad ∧ ad.block < B ∧ l[j]? = some x ∧ w.cell? (ad.add (j * 3)) = some (.slice x.A x.b.length x.c) ∧ w.cell? (ad.add (j * 3 + 1)) = some (.bool x.e) ∧ w.cell? (ad.add (j * 3 + 2)) = some (.int .i64 x.k) ∧ Sl w B x.A x.b.length x.c (bvs x.b) ∧ -9223372036854775808 ≤ x.k ∧ x.k ≤ 9223372036854775807 := by
  obtain ⟨ad, e, hb, hc⟩ := h.at_ (by omega)
  have hl : j < l.length := by have := h.len; omega
  exact ⟨ad, l[j], e, hb, List.getElem?_eq_getElem hl, hc j _ (List.getElem?_eq_getElem hl)⟩

/-- the bytes of the calls -/
def actLens (l : List ActV) : Nat := (l.map fun x => x.b.length).sum
theorem actLens_take (l : List ActV) (k : Nat) (x : ActV) (h : l[k]? = some x) : actLens (l.take (k + 1)) = actLens (l.take k) + x.b.length := by
  unfold actLens
  rw [List.take_add_one, h]
  simp
/-- what few says if it says yes -/
def FewOk (l : List ActV) : Prop := l.length ≤ 60 ∧ (∀ x ∈ l, x.b.length ≤ 10000) ∧ actLens l ≤ 12000
def FewIs (l : List ActV) (w : World) (e : Ending) (w' : World) : Prop := ∃ b : Bool, e = .returned (.bool b) ∧ (b = true → FewOk l) ∧ w = w'

/-- gives: Grant's answer is laid against bytes -/
def GivesOut (w : World) (base g : Nat) (v : Value) (cap : Nat) (sdus' : List (List UInt8)) (sent' next' : Nat) (e : Ending) (w' : World) : Prop :=
  e = .returned (.bool true) ∧ ∃ v' vs', Snd w' base g v' vs' sdus' sent' cap next' ∧ qBlock v' = qBlock v ∧ Kept (fun k _ => k = g) w w'
end Go.Proofs.YtbjajboodohabaaGreat
