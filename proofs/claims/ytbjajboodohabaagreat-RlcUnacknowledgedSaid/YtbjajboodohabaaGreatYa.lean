/- The reference's reader: Unpack, NewReader, Uint, Get, Align. The reference's reader: Get, Align. The reference's Rest: lengths. -/
import Derived.Test.YtbjajboodohabaaGreatXa
import Derived.Test.YtbjajboodohabaaGreatDa
import Derived.Test.YtbjajboodohabaaGreatPa
import Derived.Test.YtbjajboodohabaaGreatLa
import Derived.Deep.RegionLaw
namespace Go.Proofs.YtbjajboodohabaaGreat
open Go.RowKit

theorem unpack_snoc (bs : List UInt8) (k : Nat) (h : k < 8 * bs.length) : (unpack bs).take (k + 1) = (unpack bs).take k ++ [bitB bs k] := by
  rw [List.take_add_one]
  congr 1
  simp [unpack, h]
theorem bv_bitB (bs : List UInt8) (k : Nat) (b : UInt8) (hb : bs[k / 8]? = some b) : Value.int .u8 ((b.toNat : Int) / 2 ^ (7 - k % 8) % 2) = bv (bb (bitB bs k)) := by
  have e : (b.toNat : Int) / 2 ^ (7 - k % 8) = ((b.toNat / 2 ^ (7 - k % 8) : Nat) : Int) := by push_cast; rfl
  rw [e, bv_bit]
  unfold bitB
  rw [List.getD_eq_getElem?_getD, hb]
  rfl

theorem own_sl' {w : World} {base : Nat} {e : TypeId} {A : Option Addr} {c n : Nat} {xs : List Value} (h : w.ownsRow base e 1 (.slice A n c) n xs) : Sl w w.heap.size A n c xs := by
  obtain ⟨A', c', he, hs, _⟩ := own_sl h
  cases he
  exact hs
/-- an owned row behind a store into a block of another type -/
theorem own_store {w : World} {base : Nat} {e t : TypeId} {v : Value} {n g i : Nat} {xs : List Value} {cs : Array Value} (h : w.ownsRow base e 1 v n xs) (hg : Blk w g t cs) (hne : e ≠ t) (u : Value) : (w.setCell ⟨g, i, none⟩ u).ownsRow base e 1 v n xs :=
  h.kept (grownBy_setAt w g i u) (.inr (own_blk_ne h hg hne))
/-- what NewReader gives -/
def GivesReader (w : World) (n : Nat) (l : List Bool) (at_ : Nat) (e : Ending) (w' : World) : Prop :=
  ∃ A c, e = .returned (.agg #[.slice A n c, .int .i64 at_]) ∧ Sl w' w'.heap.size A n c (bvs (bbs l)) ∧ Below w.heap.size w w'

end Go.Proofs.YtbjajboodohabaaGreat
namespace Go.Proofs.YtbjajboodohabaaGreat
open Go.RowKit

theorem unpack_cut (bs : List UInt8) (pos n : Nat) (h : pos + n ≤ 8 * bs.length) : ((unpack bs).drop pos).take n = bitsAt bs pos n := by
  apply List.ext_getElem?
  intro i
  unfold unpack bitsAt
  rw [List.getElem?_take]
  by_cases hi : i < n
  · rw [if_pos hi, List.getElem?_drop, List.getElem?_map, List.getElem?_map, List.getElem?_range (by omega), List.getElem?_range hi]
    rfl
  · rw [if_neg hi, List.getElem?_eq_none (by simp; omega)]
/-- a part of a slice -/
theorem Sl.mid {w : World} {B n c a m : Nat} {A : Option Addr} {xs : List Value} (h : Sl w B A n c xs) (hm : a + m ≤ n) : Sl w B (if c = a then A else A.map (·.add a)) m (c - a) ((xs.drop a).take m) := by
  have h1 := h.cut (k := a) (by omega)
  exact h1.upto' (k := m) (by omega)

/-- what Get gives -/
def GotIs (w : World) (A : Option Addr) (n c pos v : Nat) (er : Int) (e : Ending) (w' : World) : Prop :=
  e = .returned (.tuple #[.agg #[.slice A n c, .int .i64 pos], .int .u64 v, .int .i64 er]) ∧ Below w.heap.size w w'

theorem val_none (l : List Bool) : val l = 0 ↔ ∀ b ∈ l, b = false := by
  induction l with
  | nil => simp [val]
  | cons b l ih =>
    rw [val_cons]
    have hp : 0 < 2 ^ l.length := Nat.two_pow_pos _
    cases b with
    | true => simp
    | false => simpa using ih

end Go.Proofs.YtbjajboodohabaaGreat
namespace Go.Proofs.YtbjajboodohabaaGreat
open Go.RowKit

/-- what lengths, padding and data give -/
def afterLens (bs : List UInt8) : Sum Nat (List Nat × Nat) → Sum Nat (List (List UInt8))
  | .inl er => .inl er
  | .inr (ls, p) => partsRes ls (bs.drop (p / 8))
def restRes (bs : List UInt8) (more : Bool) (pos : Nat) : Sum Nat (List (List UInt8)) := afterLens bs (lenRes bs more pos)

/-- parts that read as ps as long as the cells below Bb and those from base on stay -/
def Stays (base Bb : Nat) (w : World) (A : Option Addr) (c : Nat) (vs : List Value) (ps : List (List UInt8)) : Prop :=
  ∀ w2 : World, (∀ p : Addr, p.block < Bb ∨ (base ≤ p.block ∧ p.block < w.heap.size) → w2.cell? p = w.cell? p) → w.heap.size ≤ w2.heap.size → Sls w2 w2.heap.size A ps.length c vs ps
theorem Stays.sls {base Bb : Nat} {w : World} {A : Option Addr} {c : Nat} {vs : List Value} {ps : List (List UInt8)} (h : Stays base Bb w A c vs ps) : Sls w w.heap.size A ps.length c vs ps := h w (fun _ _ => rfl) (Nat.le_refl _)
/-- what Rest gives -/
def RestIs (w : World) (Bb : Nat) (s e : Bool) (R : Sum Nat (List (List UInt8))) (en : Ending) (w' : World) : Prop :=
  Below w.heap.size w w' ∧ ((∃ er : Nat, R = .inl er ∧ en = .returned (.tuple #[.agg #[.bool false, .bool false, .slice none 0 0], .int .i64 er])) ∨
    (∃ ps A c vs, R = .inr ps ∧ en = .returned (.tuple #[.agg #[.bool s, .bool e, .slice A ps.length c], .int .i64 0]) ∧ Stays w.heap.size Bb w' A c vs ps))

/-- the first k parts as values: slices that share the array -/
def restVals (ad : Addr) (cd : Nat) (ls : List Nat) (k : Nat) : List Value := (List.range k).map fun i => .slice (some (ad.add (ls.take i).sum)) (ls[i]?.getD 0) (cd - (ls.take i).sum)
theorem restVals_succ (ad : Addr) (cd : Nat) (ls : List Nat) (k n : Nat) (h : ls[k]? = some n) : restVals ad cd ls (k + 1) = restVals ad cd ls k ++ [.slice (some (ad.add (ls.take k).sum)) n (cd - (ls.take k).sum)] := by
  simp [restVals, List.range_succ, h]
theorem rest_sls {w : World} {base B : Nat} {A : Option Addr} {c cd m : Nat} {ad : Addr} {ls : List Nat} {D : List UInt8}
    (how : w.ownsRow base 40 1 (.slice A (ls.length + 1) c) (ls.length + 1) (restVals ad cd ls ls.length ++ [.slice (some (ad.add ls.sum)) (m - ls.sum) (cd - ls.sum)]))
    (hD : Sl w B (some ad) m cd (bvs D)) (hB : B ≤ w.heap.size) (hs : ls.sum < m) :
    Stays base B w A c (restVals ad cd ls ls.length ++ [.slice (some (ad.add ls.sum)) (m - ls.sum) (cd - ls.sum)]) (splitBy ls D) := by
  intro w2 hkeep hsz2
  have hl : D.length = m := by have := hD.len; simpa using this
  have hcap := hD.cap
  have hD2 : Sl w2 B (some ad) m cd (bvs D) := hD.keep fun p hp => hkeep p (.inl hp)
  have key : ∀ a k, a + k ≤ m → a < m → Sl w2 w2.heap.size (some (ad.add a)) k (cd - a) (bvs ((D.drop a).take k)) := by
    intro a k h1 h2
    have h3 := (hD2.mid h1).more (show B ≤ w2.heap.size by omega)
    rw [if_neg (by omega)] at h3
    have e : ((bvs D).drop a).take k = bvs ((D.drop a).take k) := by simp [bvs]
    rw [e] at h3
    exact h3
  rw [splitBy_length]
  have hout : Sl w2 w2.heap.size A (ls.length + 1) c (restVals ad cd ls ls.length ++ [.slice (some (ad.add ls.sum)) (m - ls.sum) (cd - ls.sum)]) := by
    obtain ⟨A', c', he, hs', hbase⟩ := own_sl how
    cases he
    refine ⟨hs'.len, hs'.cap, hs'.mx, fun hn => ?_⟩
    obtain ⟨a1, e1, hb1, hc1⟩ := hs'.at_ hn
    obtain ⟨a2, e2, hb2⟩ := hbase hn
    rw [e1] at e2
    cases e2
    exact ⟨a1, e1, by omega, fun j u hu => (hkeep _ (.inr (by rw [block_add]; exact ⟨hb2, hb1⟩))).trans (hc1 j u hu)⟩
  refine ⟨hout, splitBy_length _ _, fun i p hi => ?_⟩
  have hil : i < ls.length + 1 := by
    have := (List.getElem?_eq_some_iff.1 hi).1
    rwa [splitBy_length] at this
  have hvl : (restVals ad cd ls ls.length).length = ls.length := by simp [restVals]
  by_cases hik : i < ls.length
  · obtain ⟨n, hn⟩ : ∃ n, ls[i]? = some n := ⟨_, List.getElem?_eq_getElem hik⟩
    rw [splitBy_get ls D i n hn] at hi
    injection hi with hi
    have hsn := sum_take ls i n hn
    have hsl := sum_take_le ls (i + 1)
    have hk := key (ls.take i).sum n (by omega) (by omega)
    rw [hi] at hk
    have hlen : p.length = n := by rw [← hi, List.length_take, List.length_drop, hl]; omega
    rw [hlen]
    refine ⟨_, _, ?_, hk⟩
    rw [List.getElem?_append_left (by omega)]
    unfold restVals
    rw [List.getElem?_map, List.getElem?_range hik]
    simp only [Option.map_some, hn, Option.getD_some]
  · obtain rfl : i = ls.length := by omega
    rw [splitBy_last] at hi
    injection hi with hi
    have hlen : p.length = m - ls.sum := by rw [← hi, List.length_drop, hl]
    have hk := key ls.sum (m - ls.sum) (by omega) (by omega)
    rw [List.take_of_length_le (by rw [List.length_drop, hl]; omega), hi] at hk
    rw [hlen]
    refine ⟨_, _, ?_, hk⟩
    rw [List.getElem?_append_right (by omega), hvl]
    simp
/-- a new block of one cell reads as a slice, behind a draw too -/
theorem sl_new1 (W : World) (x : Value) (t : TypeId) : Sl (W.alloc (.cells #[x] t)).drew (W.alloc (.cells #[x] t)).heap.size (some ⟨W.heap.size, 0, none⟩) 1 1 [x] :=
  (sl_lit (xs := [x]) (heap_new W (.cells #[x] t)) rfl (by simp)).drew
theorem Blk.put3 {w : World} {g : Nat} {t : TypeId} {x0 x1 x2 : Value} (b : Blk w g t #[x0, x1, x2]) (u0 u1 u2 : Value) : Blk (((w.setCell ⟨g, 0, none⟩ u0).setCell ⟨g, 1, none⟩ u1).setCell ⟨g, 2, none⟩ u2) g t #[u0, u1, u2] := by
  have := ((b.set_ 0 u0).set_ 1 u1).set_ 2 u2
  simpa using this
theorem Blk.put2 {w : World} {g : Nat} {t : TypeId} {x0 x1 : Value} (b : Blk w g t #[x0, x1]) (u0 u1 : Value) : Blk ((w.setCell ⟨g, 0, none⟩ u0).setCell ⟨g, 1, none⟩ u1) g t #[u0, u1] := by
  have := (b.set_ 0 u0).set_ 1 u1
  simpa using this
theorem below_put3 {B : Nat} {a w : World} (hb : Below B a w) {g : Nat} (hg : B ≤ g) (u0 u1 u2 : Value) : Below B a (((w.setCell ⟨g, 0, none⟩ u0).setCell ⟨g, 1, none⟩ u1).setCell ⟨g, 2, none⟩ u2) :=
  ((hb.setCell (p := ⟨g, 0, none⟩) hg u0).setCell (p := ⟨g, 1, none⟩) hg u1).setCell (p := ⟨g, 2, none⟩) hg u2
theorem below_put2 {B : Nat} {a w : World} (hb : Below B a w) {g : Nat} (hg : B ≤ g) (u0 u1 : Value) : Below B a ((w.setCell ⟨g, 0, none⟩ u0).setCell ⟨g, 1, none⟩ u1) :=
  (hb.setCell (p := ⟨g, 0, none⟩) hg u0).setCell (p := ⟨g, 1, none⟩) hg u1

end Go.Proofs.YtbjajboodohabaaGreat
