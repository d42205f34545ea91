/- The bit reader: NewReader, Align; errors that are raised: must, got. -/
import Derived.Test.YtchlbpfeiamieaaR0
import Derived.Test.YtchlbpfeiamieaaM1
namespace Go.Proofs.Ytchlbpfeiamieaa
open Go.RowKit

/-- NewReader hands back a reader of a copy. -/
def GivesRdr (w : World) (bs : List UInt8) (e : Ending) (w' : World) : Prop :=
  ∃ r v, e = .returned (.pointer (some ⟨r, 0, none⟩)) ∧ w.heap.size ≤ r ∧ Rdr w' r v bs 0 ∧ Below w.heap.size w w'

theorem newReader_any (A : Option Addr) (n c : Nat) (bs : List UInt8) (w : World) (h : Sl w w.heap.size A n c (bvs bs)) (hsm : n ≤ 1000000000) :
    Calls Try.prog 82 #[.slice A n c] w (GivesRdr w bs) := by
  have hl : bs.length = n := by simpa using h.len
  have hcl := clone_any A n c bs w h hsm
  have HC := Lib.hid hcl
  clear hcl hsm
  go_enter Try.func82, Try.ntmps82
  go_wp2_with fail
  refine HC.out.mono ?_
  rintro e w1 ⟨v, rfl, hv, hb⟩
  obtain ⟨A1, c1, rfl, hs1, _⟩ := own_sl hv
  go_wp2
  go_ret
  refine ⟨w1.heap.size, _, rfl, hb.size, ⟨Blk.new w1 184 _, ?_⟩, hb.alloc hb.size _⟩
  rw [hl]
  exact own_base (hv.alloc _) (Nat.zero_le _)

theorem must_true (er : Int) (w : World) : Calls Try.prog 85 #[.bool true, .int .i64 er] w fun e w' => e = .returned (.tuple #[]) ∧ w = w' := by
  go_enter Try.func85, Try.ntmps85
  go_wp2
  go_end0
  exact ⟨rfl, rfl⟩
/-- the panic that must raises -/
abbrev raise (er : Int) : Ending := .panicked [{ v := .iface 30 (.int .i64 er), recovered := false }]
theorem must_false (er : Int) (w : World) : Calls Try.prog 85 #[.bool false, .int .i64 er] w fun e w' => e = raise er ∧ w = w' := by
  unfold raise
  go_enter Try.func85, Try.ntmps85
  go_wp2
  exact ⟨rfl, rfl, rfl⟩

theorem got_ok (x : Int) (w : World) : Calls Try.prog 145 #[.int .u64 x, .int .i64 0] w fun e w' => e = .returned (.int .u64 x) ∧ w = w' := by
  go_enter Try.func145, Try.ntmps145
  go_wp2_with (go_at_call 85; refine (must_true _ _).mono ?_; rintro e w' ⟨rfl, rfl⟩)
  go_ret
  exact ⟨rfl, rfl⟩
theorem got_err (x er : Int) (her : (er == 0) = false) (w : World) : Calls Try.prog 145 #[.int .u64 x, .int .i64 er] w fun e w' => e = raise er ∧ w = w' := by
  go_enter Try.func145, Try.ntmps145
  go_wp2_with (go_at_call 85; refine (must_false _ _).mono ?_; rintro e w' ⟨rfl, rfl⟩)
  exact ⟨rfl, rfl, rfl⟩
theorem gots_ok (A : Option Addr) (n c : Nat) (w : World) : Calls Try.prog 83 #[.slice A n c, .int .i64 0] w fun e w' => e = .returned (.slice A n c) ∧ w = w' := by
  go_enter Try.func83, Try.ntmps83
  go_wp2_with (go_at_call 85; refine (must_true _ _).mono ?_; rintro e w' ⟨rfl, rfl⟩)
  go_ret
  exact ⟨rfl, rfl⟩
theorem gots_err (A : Option Addr) (n c : Nat) (er : Int) (her : (er == 0) = false) (w : World) : Calls Try.prog 83 #[.slice A n c, .int .i64 er] w fun e w' => e = raise er ∧ w = w' := by
  go_enter Try.func83, Try.ntmps83
  go_wp2_with (go_at_call 85; refine (must_false _ _).mono ?_; rintro e w' ⟨rfl, rfl⟩)
  exact ⟨rfl, rfl, rfl⟩

/-- what Align answers -/
def AlignIs (w : World) (r : Nat) (v : Value) (bs : List UInt8) (er : Int) (pos : Nat) (e : Ending) (w' : World) : Prop :=
  e = .returned (.int .i64 er) ∧ Rdr w' r v bs pos ∧ Kept (fun k _ => k = r) w w'

set_option maxHeartbeats 400000 in
theorem alignR_any (r : Nat) (v : Value) (bs : List UInt8) (pos : Nat) (w : World) (h : Rdr w r v bs pos) (hsm : bs.length ≤ 1000000000) (hp : pos ≤ 8 * bs.length) :
    Calls Try.prog 146 #[.pointer (some ⟨r, 0, none⟩)] w (AlignIs w r v bs (if val (bitsAt bs pos (padN pos)) = 0 then 0 else 9) (if val (bitsAt bs pos (padN pos)) = 0 then pos + padN pos else pos)) := by
  have hn8 : padN pos < 8 := by unfold padN; omega
  have hfit : pos + padN pos ≤ 8 * bs.length := by unfold padN; omega
  have hg := get_ok r v bs pos (padN pos) w h hsm (by omega) hfit
  have c1 := h.1.cell 1
  simp at c1
  have hpad : (8 - (pos : Int) % 8) % 8 = (padN pos : Int) := by unfold padN; omega
  have HG := Lib.hid hg
  generalize padN pos = n at *
  generalize val (bitsAt bs pos n) = V at *
  have hps : pos < 10000000000 := by omega
  clear hg hfit hsm
  by_cases hV : V = 0
  · subst hV
    simp only [if_true]
    go_enter Try.func146, Try.ntmps146
    go_wp2_with fail
    refine HG.out.mono ?_
    rintro e w1 ⟨rfl, hr1, hk1⟩
    go_wp2
    go_ret
    exact ⟨rfl, hr1, hk1⟩
  · have hV' : ((V : Int) != 0) = true := by simp; omega
    simp only [if_neg hV]
    go_enter Try.func146, Try.ntmps146
    go_wp2_with fail
    refine HG.out.mono ?_
    rintro e w1 ⟨rfl, hr1, hk1⟩
    have c1 := hr1.1.cell 1
    have f1 := hr1.1.frozen 1
    simp at c1
    have e1 : ((pos : Int) + n) - n = pos := by omega
    go_wp2
    go_ret
    exact ⟨rfl, hr1.move pos, hk1.setCell (p := ⟨r, 1, none⟩) (fun _ _ => rfl) _⟩
end Go.Proofs.Ytchlbpfeiamieaa
