/- umsend: left, Waiting, take. -/
import Derived.Test.YtchlbpfeiamieaaJ1
namespace Go.Proofs.Ytchlbpfeiamieaa
open Go.RowKit Go.Shelf
attribute [local go_sem] Oper.semAt_some

theorem Blk.four' {w : World} {g : Nat} {t : TypeId} {x y z u : Value} (b : Blk w g t #[x, y, z, u]) : w.cell? ⟨g, 0, none⟩ = some x ∧ w.cell? ⟨g, 1, none⟩ = some y ∧ w.cell? ⟨g, 2, none⟩ = some z ∧ w.cell? ⟨g, 3, none⟩ = some u :=
  ⟨b.cell 0, b.cell 1, b.cell 2, b.cell 3⟩
/-- a number, with draws alone -/
def NumberD (x : Int) (w : World) (e : Ending) (w' : World) : Prop := e = .returned (.int .i64 x) ∧ Drew w w'
set_option maxHeartbeats 400000 in
theorem sleft_any (g base sent cap next : Nat) (v : Value) (vs : List Value) (sdus : List (List UInt8)) (w : World) (h : Snd w base g v vs sdus sent cap next) (hsum : sumLen sdus ≤ 1152921504606846976) (hsent : sent ≤ 1152921504606846976) :
    Calls Try.prog 132 #[.pointer (some ⟨g, 0, none⟩)] w (NumberD ((sumLen sdus : Int) - sent) w) := by
  obtain ⟨A, c, rfl, hs⟩ := h.sls
  have ht := fun W (hW : Sls W W.heap.size A sdus.length c vs sdus) => stotal_any A sdus.length c vs sdus W hW hsum
  obtain ⟨x0, x1, x2, x3⟩ := h.blk.four'
  have hw : IntKind.i64.wrap ((sumLen sdus : Int) - sent) = (sumLen sdus : Int) - sent := IntWalk.i64_in _ (by omega)
  have ht0 := fun k => ht (w.drewN k) (hs.drewn ⟨k, rfl⟩)
  generalize sumLen sdus = S at *
  have HT := Lib.hid ht0
  clear ht ht0 hs
  go_enter Try.func132, Try.ntmps132
  go_wp2_with fail
  go_quiet ((go_at_call 163; exact Calls.quiet_of_same ((HT.out _).mono fun _ _ hh => ⟨hh.1, hh.2.symm⟩)))
  go_wp2
  go_ret
  refine ⟨ret_int (by first | rw [hw] | rfl), ?_⟩
  exact ⟨_, rfl⟩
theorem swaiting_any (g base sent cap next : Nat) (v : Value) (vs : List Value) (sdus : List (List UInt8)) (w : World) (h : Snd w base g v vs sdus sent cap next) (hc : 1 ≤ cap) :
    Calls Try.prog 64 #[.pointer (some ⟨g, 0, none⟩)] w fun e w' => e = .returned (.int .i64 sdus.length) ∧ w = w' := by
  have hn := snone_any g cap _ _ _ w h.blk hc
  obtain ⟨A, c, rfl, hs⟩ := h.sls
  have hcap := hs.sl.cap
  have hmx := hs.sl.mx
  obtain ⟨x0, x1, x2, x3⟩ := h.blk.four'
  have HN := Lib.hid hn
  clear hn hs
  go_enter Try.func64, Try.ntmps64
  go_wp2_with (go_at_call 131; refine HN.out.mono ?_; rintro e1 w1 ⟨rfl, rfl⟩)
  go_ret
  exact ⟨rfl, rfl⟩
end Go.Proofs.Ytchlbpfeiamieaa
