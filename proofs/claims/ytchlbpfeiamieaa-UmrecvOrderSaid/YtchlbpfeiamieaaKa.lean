/- law31: calls as values; few; gives. -/
import Derived.Test.YtchlbpfeiamieaaJ9
namespace Go.Proofs.Ytchlbpfeiamieaa
open Go.RowKit Go.Shelf
attribute [local go_sem] Oper.semAt_some

/-- a call as a value: its bytes (in memory), whether they may be empty, its number -/
structure ActV where
  A : Option Addr
  b : List UInt8
  c : Nat
  e : Bool
  k : Int
/-- a slice of calls -/
structure SlA (w : World) (B : Nat) (A : Option Addr) (n c : Nat) (l : List ActV) : Prop where
  len : l.length = n
  cap : n ≤ c
  mx : c ≤ 9223372036854775807
  at_ : 0 < n → ∃ ad, A = some ad ∧ ad.block < B ∧ ∀ j x, l[j]? = some x → w.cell? (ad.add (j * 3)) = some (.slice x.A x.b.length x.c) ∧ w.cell? (ad.add (j * 3 + 1)) = some (.bool x.e) ∧ w.cell? (ad.add (j * 3 + 2)) = some (.int .i64 x.k) ∧ Sl w B x.A x.b.length x.c (bvs x.b) ∧ -9223372036854775808 ≤ x.k ∧ x.k ≤ 9223372036854775807
theorem SlA.keep {w w' : World} {B n c : Nat} {A : Option Addr} {l : List ActV} (h : SlA w B A n c l) (hk : ∀ p : Addr, p.block < B → w'.cell? p = w.cell? p) : SlA w' B A n c l :=
  ⟨h.len, h.cap, h.mx, fun hn => by
    obtain ⟨ad, e, hb, hc⟩ := h.at_ hn
    refine ⟨ad, e, hb, fun j x hj => ?_⟩
    obtain ⟨h1, h2, h3, h4, h5⟩ := hc j x hj
    exact ⟨(hk _ (by rw [block_add]; exact hb)).trans h1, (hk _ (by rw [block_add]; exact hb)).trans h2, (hk _ (by rw [block_add]; exact hb)).trans h3, h4.keep hk, h5⟩⟩
theorem SlA.below {w w' : World} {B n c : Nat} {A : Option Addr} {l : List ActV} (h : SlA w B A n c l) (hb : Below B w w') : SlA w' B A n c l := h.keep fun _ hp => hb.cell hp
theorem SlA.get {w : World} {B n c : Nat} {A : Option Addr} {l : List ActV} (h : SlA w B A n c l) {j : Nat} (hj : j < n) : ∃ ad x, A = some ad ∧ ad.block < B ∧ l[j]? = some x ∧ w.cell? (ad.add (j * 3)) = some (.slice x.A x.b.length x.c) ∧ w.cell? (ad.add (j * 3 + 1)) = some (.bool x.e) ∧ w.cell? (ad.add (j * 3 + 2)) = some (.int .i64 x.k) ∧ Sl w B x.A x.b.length x.c (bvs x.b) ∧ -9223372036854775808 ≤ x.k ∧ x.k ≤ 9223372036854775807 := by
  obtain ⟨ad, e, hb, hc⟩ := h.at_ (by omega)
  have hl : j < l.length := by have := h.len; omega
  exact ⟨ad, l[j], e, hb, List.getElem?_eq_getElem hl, hc j _ (List.getElem?_eq_getElem hl)⟩

/-- the bytes of the calls -/
def actLens (l : List ActV) : Nat := (l.map fun x => x.b.length).sum
theorem actLens_take (l : List ActV) (k : Nat) (x : ActV) (h : l[k]? = some x) : actLens (l.take (k + 1)) = actLens (l.take k) + x.b.length := by
  unfold actLens
  rw [List.take_add_one, h]
  simp
/-- what few says if it says yes -/
def FewOk (l : List ActV) : Prop := l.length ≤ 60 ∧ (∀ x ∈ l, x.b.length ≤ 10000) ∧ actLens l ≤ 12000
def FewIs (l : List ActV) (w : World) (e : Ending) (w' : World) : Prop := ∃ b : Bool, e = .returned (.bool b) ∧ (b = true → FewOk l) ∧ w = w'

set_option maxRecDepth 10000 in
set_option maxHeartbeats 1000000 in
theorem sfew_any (A : Option Addr) (n c : Nat) (l : List ActV) (w : World) (h : SlA w w.heap.size A n c l) :
    Calls Try.prog 56 #[.slice A n c, .int .i64 60] w (FewIs l w) := by
  have hn63 : n ≤ 9223372036854775807 := by have := h.cap; have := h.mx; omega
  by_cases h60 : 60 < n
  · go_enter Try.func56, Try.ntmps56
    go_wp2
    go_ret
    exact ⟨false, rfl, by simp, rfl⟩
  · go_enter Try.func56, Try.ntmps56
    go_wp2
    go_loop [5, 6] (fun s i => ∃ k : Nat, k ≤ n ∧ i = .int .i64 k ∧ s = .int .i64 (actLens (l.take k) : Nat) ∧ actLens (l.take k) ≤ 10000 * k ∧ ∀ x ∈ l.take k, x.b.length ≤ 10000) (fun _ i => n - (intOf i).toNat)
    case atStart => exact ⟨0, Nat.zero_le _, rfl, rfl, by simp [actLens], by simp⟩
    case round =>
      obtain ⟨k, hk, rfl, rfl, hs, hall⟩ := hrel
      have HALL := Lib.hid hall
      clear hall
      by_cases hlt : k < n
      · obtain ⟨ad, x, rfl, hb, hx, h1, h2, h3, h4, h5⟩ := h.get hlt
        have hts := actLens_take l k x hx
        have htk : l.take (k + 1) = l.take k ++ [x] := by rw [List.take_add_one, hx]; rfl
        have HTS := Lib.hid hts
        have HTK := Lib.hid htk
        have hcap := h4.cap
        have hmx := h4.mx
        generalize actLens (l.take k) = S at *
        clear hx hts htk h4 h2 h3 h5
        go_wp2
        all_goals first
          | (go_ret; exact ⟨false, rfl, by simp, rfl⟩)
          | (go_round
             case rel =>
               refine ⟨k + 1, by omega, by go_num, by rw [HTS.out]; go_num, by rw [HTS.out]; omega, fun y hy => ?_⟩
               rw [HTK.out, List.mem_append] at hy
               rcases hy with hy | hy
               · exact HALL.out y hy
               · simp at hy
                 rw [hy]
                 omega
             case measure => simp [intOf]; omega)
      · have hlen := h.len
        have e1 : l.take k = l := List.take_of_length_le (by omega)
        rw [e1] at HALL hs ⊢
        have HLEN := Lib.hid hlen
        generalize hS : actLens l = S at *
        have HSS := Lib.hid hS
        clear e1 hS hlen
        go_wp2
        go_ret
        refine ⟨_, rfl, fun hb => ⟨?_, HALL.out, ?_⟩, rfl⟩
        · rw [HLEN.out]; omega
        · rw [HSS.out]; simp at hb; omega
/-- gives: Grant's answer is laid against bytes -/
def GivesOut (w : World) (base g : Nat) (v : Value) (cap : Nat) (sdus' : List (List UInt8)) (sent' next' : Nat) (e : Ending) (w' : World) : Prop :=
  e = .returned (.bool true) ∧ ∃ v' vs', Snd w' base g v' vs' sdus' sent' cap next' ∧ qBlock v' = qBlock v ∧ Kept (fun k _ => k = g) w w'
theorem sgives_any (g base cap : Nat) (n : Int) (v : Value) (bs : List UInt8) (sdus' : List (List UInt8)) (sent' next' : Nat) (w : World)
    (hG : Calls Try.prog 62 #[.pointer (some ⟨g, 0, none⟩), .int .i64 n] w (GrantOut w base g v cap bs 0 sdus' sent' next')) :
    Calls Try.prog 128 #[.pointer (some ⟨g, 0, none⟩), .int .i64 n, .string ⟨bs.toArray⟩] w (GivesOut w base g v cap sdus' sent' next') := by
  have HG := Lib.hid hG
  clear hG
  go_enter Try.func128, Try.ntmps128
  go_wp2_with fail
  refine HG.out.mono ?_
  rintro e1 w1 ⟨vb, v', vs', rfl, hvb, hs1, hq1, hk1⟩
  obtain ⟨A1, c1, rfl, hs, _⟩ := own_sl hvb
  have kc := conv_sl hs
  have HS1 := Lib.hid hs1
  have HQ1 := Lib.hid hq1
  have HK1 := Lib.hid hk1
  clear hs1 hq1 hk1 hvb hs
  go_wp2_with (go_at_call 59; refine (numS_any _ _).mono ?_; rintro e1 w1 ⟨rfl, rfl⟩)
  go_ret
  exact ⟨rfl, v', vs', HS1.out, HQ1.out, HK1.out⟩
end Go.Proofs.Ytchlbpfeiamieaa
