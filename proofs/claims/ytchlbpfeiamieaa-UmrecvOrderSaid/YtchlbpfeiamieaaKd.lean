/- law31: the examples of the chapter. -/
import Derived.Test.YtchlbpfeiamieaaKc
import Derived.Lib.SlBytesConst
namespace Go.Proofs.Ytchlbpfeiamieaa
open Go.RowKit Go.Shelf
attribute [local go_sem] Oper.semAt_some

def exH : List UInt8 := [104, 101, 108, 108, 111]
def exY : List UInt8 := [121, 111, 117]
theorem ex_sd : ∀ s ∈ [exH, exY], 1 ≤ s.length ∧ s.length ≤ 1000000 := by decide
theorem ex_lt0 : ∀ x r, [exH, exY] = x :: r → 0 < x.length := by
  intro x r h
  cases h
  decide
theorem ex_lt3 : ∀ x r, [exH, exY] = x :: r → 3 < x.length := by
  intro x r h
  cases h
  decide
/-- the transmitter behind a call, in more memory -/
def SndOn (W : World) (base g : Nat) (sdus : List (List UInt8)) (sent cap next : Nat) (u : Value) (e : Ending) (w' : World) : Prop :=
  e = .returned u ∧ ∃ v vs, Snd w' base g v vs sdus sent cap next ∧ Below base W w'
theorem ssubmit_lit (W : World) (base g : Nat) (v : Value) (vs : List Value) (sdus : List (List UInt8)) (sent cap next : Nat) (h : Snd W base g v vs sdus sent cap next) (hbg : base ≤ g) (x : List UInt8) (cs : Array Value) (fr : Nat × Nat) (hcs : cs.toList = bvs x) (m : Nat) (hm : m = x.length)
    (hc : 1 ≤ cap) (hx0 : 0 < x.length) (hx9 : x.length ≤ 9000) (hsum : sumLen sdus ≤ 1000000000) (hsent : sent ≤ sumLen sdus) (hcap : cap ≤ 1048576) (hf : sumLen sdus + x.length ≤ cap + sent) (hsd : sdus.length ≤ 1000000) :
    Calls Try.prog 61 #[.pointer (some ⟨g, 0, none⟩), .slice (some ⟨W.heap.size, 0, none⟩) m m] (W.alloc (.cells cs 5 fr)) (SndOn W base g (sdus ++ [x]) sent cap next (.int .i64 0)) := by
  subst hm
  have hbW : base ≤ W.heap.size := by have := h.blk.lt; omega
  have hs : Sl (W.alloc (.cells cs 5 fr)) (W.alloc (.cells cs 5 fr)).heap.size (some ⟨W.heap.size, 0, none⟩) (bvs x).length (bvs x).length (bvs x) := sl_lit (heap_new W _) hcs (by simp; omega)
  rw [bvs_length] at hs
  refine (ssubmit_ok g base sent cap next v vs sdus _ x.length x.length x _ (h.alloc _) hs hc hx0 hx9 hsum hsent hcap hf hsd (by simp; omega)).mono ?_
  rintro e w' ⟨rfl, v', vs', hs', hk', _⟩
  refine ⟨rfl, v', vs', hs', ((Below.refl base W).alloc hbW _).trans (hk'.below (B := base) ?_ (by simp; omega))⟩
  rintro k o (rfl | hk)
  · exact hbg
  · exact (h.row.lt hk).1
theorem GivesOut.on {W : World} {base g : Nat} {v : Value} {cap : Nat} {sdus' : List (List UInt8)} {sent' next' : Nat} {e : Ending} {w' : World} (h : GivesOut W base g v cap sdus' sent' next' e w') (hbg : base ≤ g) (hbW : base ≤ W.heap.size) : SndOn W base g sdus' sent' cap next' (.bool true) e w' := by
  obtain ⟨he, v', vs', hs, _, hk⟩ := h
  exact ⟨he, v', vs', hs, hk.below (fun k o e => by omega) hbW⟩
theorem sgives_on (W : World) (base g : Nat) (v : Value) (vs : List Value) (sdus : List (List UInt8)) (sent cap next : Nat) (h : Snd W base g v vs sdus sent cap next) (hbg : base ≤ g) (n : Int) (hc : 1 ≤ cap) (hnx : next ≤ 1023) (hn : 0 ≤ n) (hn2 : n ≤ 9223372036854775807)
    (hsd : ∀ s ∈ sdus, 1 ≤ s.length ∧ s.length ≤ 1000000) (hlt : ∀ x r, sdus = x :: r → sent < x.length) (hz : sdus = [] → sent = 0) (R : List (List UInt8) × Bool × List (List UInt8) × Nat) (hR : chk n (sdus.length + 1) sdus sent 0 0 0 false = R) (hne : R.1 ≠ [])
    (bs : List UInt8) (hbs : encU next (decide (sent = 0)) R.2.1 R.1 = bs) :
    Calls Try.prog 128 #[.pointer (some ⟨g, 0, none⟩), .int .i64 n, .string ⟨bs.toArray⟩] W (SndOn W base g R.2.2.1 R.2.2.2 cap ((next + 1) % 1024) (.bool true)) := by
  have hG := sgrant_ok g base sent cap next n v vs sdus W h hc hnx hn hn2 hsd hlt hz R hR hne
  rw [hbs] at hG
  exact (sgives_any g base cap n v bs _ _ _ W hG).mono fun e w' hh => hh.on hbg (by have := h.blk.lt; omega)
theorem sgives_no (W : World) (base g : Nat) (v : Value) (vs : List Value) (sdus : List (List UInt8)) (sent cap next : Nat) (h : Snd W base g v vs sdus sent cap next) (hbg : base ≤ g) (n : Int) (hc : 1 ≤ cap) (hn : 0 ≤ n) (hn2 : n ≤ 9223372036854775807)
    (hsd : ∀ s ∈ sdus, 1 ≤ s.length ∧ s.length ≤ 1000000) (hlt : ∀ x r, sdus = x :: r → sent < x.length) (hz : sdus = [] → sent = 0) (h0 : (chk n (sdus.length + 1) sdus sent 0 0 0 false).1 = []) :
    Calls Try.prog 128 #[.pointer (some ⟨g, 0, none⟩), .int .i64 n, .string ⟨([] : List UInt8).toArray⟩] W (SndOn W base g sdus sent cap next (.bool true)) :=
  (sgives_any g base cap n v [] _ _ _ W (sgrant_none g base sent cap next n v vs sdus W h hc hn hn2 hsd hlt hz h0)).mono fun e w' hh => hh.on hbg (by have := h.blk.lt; omega)

theorem ex1 : chk 5 ([exH, exY].length + 1) [exH, exY] 0 0 0 0 false = ([[104, 101, 108]], false, [exH, exY], 3) := by decide +kernel
theorem ex1e : encU 0 (decide (0 = 0)) false [[104, 101, 108]] = [8, 0, 104, 101, 108] := by decide +kernel
theorem ex2 : (chk 2 ([exH, exY].length + 1) [exH, exY] 3 0 0 0 false).1 = [] := by decide +kernel
theorem ex3 : chk 99 ([exH, exY].length + 1) [exH, exY] 3 0 0 0 false = ([[108, 111], exY], true, [], 0) := by decide +kernel
theorem ex3e : encU 1 (decide (3 = 0)) true [[108, 111], exY] = [20, 1, 0, 32, 108, 111, 121, 111, 117] := by decide +kernel
theorem ex4 : (chk 99 (([] : List (List UInt8)).length + 1) [] 0 0 0 0 false).1 = [] := rfl

set_option maxRecDepth 10000 in
set_option maxHeartbeats 1000000 in
theorem sworks_any (w : World) : Calls Try.prog 57 #[] w (IsTrue w) := by
  have hne := snew_ok 100 w (by omega) (by omega)
  have kc := fun (w : World) (C : Array Value) (n c : Nat) => Lib.run_convert_bytes_const (P := Try.prog) w 29 5 C n c und29 und5
  go_enter Try.func57, Try.ntmps57
  go_wp2_with fail
  refine hne.mono ?_
  rintro e1 w1 ⟨rfl, hs1, hb1⟩
  clear hne
  generalize hB : w.heap.size = B at *
  have HBB := Lib.hid hB
  clear hB
  go_wp2_with (go_at_call 59; refine (numS_any _ _).mono ?_; rintro e1 w1 ⟨rfl, rfl⟩)
  refine (ssubmit_lit w1 B B _ _ [] 0 100 0 hs1 (Nat.le_refl _) exH _ _ rfl 5 rfl (by omega) (by decide) (by decide) (by decide) (by decide) (by omega) (by decide) (by decide)).mono ?_
  rintro e2 w2 ⟨rfl, v2, vs2, hs2, hb2⟩
  go_wp2_with (go_at_call 59; refine (numS_any _ _).mono ?_; rintro e1 w1 ⟨rfl, rfl⟩)
  refine (ssubmit_lit w2 B B _ _ [exH] 0 100 0 hs2 (Nat.le_refl _) exY _ _ rfl 3 rfl (by omega) (by decide) (by decide) (by decide) (by decide) (by omega) (by decide) (by decide)).mono ?_
  rintro e3 w3 ⟨rfl, v3, vs3, hs3, hb3⟩
  go_wp2_with (go_at_call 59; refine (numS_any _ _).mono ?_; rintro e1 w1 ⟨rfl, rfl⟩)
  refine (sgives_on w3 B B _ _ [exH, exY] 0 100 0 hs3 (Nat.le_refl _) 5 (by omega) (by omega) (by omega) (by omega) ex_sd ex_lt0 (by simp) _ ex1 (by simp) _ ex1e).mono ?_
  rintro e4 w4 ⟨rfl, v4, vs4, hs4, hb4⟩
  go_wp2_with fail
  refine (sgives_no w4 B B _ _ [exH, exY] 3 100 1 hs4 (Nat.le_refl _) 2 (by omega) (by omega) (by omega) ex_sd ex_lt3 (by simp) ex2).mono ?_
  rintro e5 w5 ⟨rfl, v5, vs5, hs5, hb5⟩
  go_wp2_with fail
  refine (sgives_on w5 B B _ _ [exH, exY] 3 100 1 hs5 (Nat.le_refl _) 99 (by omega) (by omega) (by omega) (by omega) ex_sd ex_lt3 (by simp) _ ex3 (by simp) _ ex3e).mono ?_
  rintro e6 w6 ⟨rfl, v6, vs6, hs6, hb6⟩
  go_wp2_with fail
  refine (snext_any B 100 _ _ _ w6 hs6.blk (by omega)).mono ?_
  rintro e7 w7 ⟨rfl, rfl⟩
  go_wp2_with fail
  refine (sbuffered_any B B 0 100 2 _ _ [] w6 hs6 (by omega) (by decide) (by decide) (by omega) (fun _ => rfl)).mono ?_
  rintro e7 w7 ⟨rfl, hb7⟩
  have hs7 := hs6.below hb7 (Nat.le_refl _)
  go_wp2_with fail
  refine (sgives_no w7 B B _ _ [] 0 100 2 hs7 (Nat.le_refl _) 99 (by omega) (by omega) (by omega) (by simp) (by simp) (fun _ => rfl) ex4).mono ?_
  rintro e8 w8 ⟨rfl, v8, vs8, hs8, hb8⟩
  go_wp2_with fail
  refine (ssubmit_size B B 0 100 2 _ _ [] none 0 0 w8 hs8 (by omega) (.inl rfl) (by omega) (by omega)).mono ?_
  rintro e9 w9 ⟨rfl, rfl⟩
  go_wp2
  go_ret
  refine ⟨rfl, ?_⟩
  rw [HBB.out]
  exact ((((((hb1.trans hb2).trans hb3).trans hb4).trans hb5).trans hb6).trans (hb7.mono (Nat.le_of_lt hs6.blk.lt))).trans hb8
end Go.Proofs.Ytchlbpfeiamieaa
