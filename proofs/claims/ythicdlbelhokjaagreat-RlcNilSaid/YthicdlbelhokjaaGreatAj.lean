/- law38: RlcNil. -/
import Derived.Test.YthicdlbelhokjaaGreatAi
namespace Go.Proofs.YthicdlbelhokjaaGreat
open Go.RowKit
attribute [local go_sem] Oper.semAt_some

theorem Blk.two_ {w : World} {g : Nat} {t : TypeId} {x y : Value} (b : Blk w g t #[x, y]) : w.cell? ⟨g, 0, none⟩ = some x ∧ w.cell? ⟨g, 1, none⟩ = some y := ⟨b.cell 0, b.cell 1⟩
theorem Blk.four_ {w : World} {g : Nat} {t : TypeId} {x y z u : Value} (b : Blk w g t #[x, y, z, u]) : w.cell? ⟨g, 0, none⟩ = some x ∧ w.cell? ⟨g, 1, none⟩ = some y ∧ w.cell? ⟨g, 2, none⟩ = some z ∧ w.cell? ⟨g, 3, none⟩ = some u := ⟨b.cell 0, b.cell 1, b.cell 2, b.cell 3⟩
/-- the memory of the law's loops -/
structure NilMem (w : World) (now n : Int) (A : Option Addr) (m c : Nat) (wr : World) : Prop where
  x : ∃ kd : Int, Blk wr w.heap.size 53 #[.int .i64 kd, .int .i64 now, .int .i64 n, .slice A m c]
  z : Blk wr (w.heap.size + 1) 67 #[.int .i64 0, .nilIface, .pointer none]
  l : Blk wr (w.heap.size + 1 + 1) 27 #[.pointer none, .pointer (some ⟨w.heap.size + 1, 0, none⟩)]
  bel : Below w.heap.size w wr
theorem NilMem.more {w : World} {now n : Int} {A : Option Addr} {m c : Nat} {wr w' : World} (h : NilMem w now n A m c wr) (hb : Below wr.heap.size wr w') : NilMem w now n A m c w' :=
  ⟨let ⟨kd, hx⟩ := h.x; ⟨kd, hx.below hb hx.lt⟩, h.z.below hb h.z.lt, h.l.below hb h.l.lt, h.bel.trans (hb.mono h.bel.size)⟩
theorem NilMem.elem {w : World} {now n : Int} {A : Option Addr} {m c : Nat} {wr : World} (_h : NilMem w now n A m c wr) (k : Nat) (hk : k < 2) : ∃ p, (∀ wx, Blk wx (w.heap.size + 1 + 1) 27 #[.pointer none, .pointer (some ⟨w.heap.size + 1, 0, none⟩)] → wx.cell? ⟨w.heap.size + 1 + 1, k, none⟩ = some p) ∧ (∀ wx, Blk wx (w.heap.size + 1) 67 #[.int .i64 0, .nilIface, .pointer none] → NoneAt p wx) := by
  match k, hk with
  | 0, _ => exact ⟨_, fun wx hb => hb.cell 0, fun wx _ => .inl rfl⟩
  | 1, _ => exact ⟨_, fun wx hb => hb.cell 1, fun wx hb => .inr ⟨_, rfl, hb⟩⟩
set_option maxRecDepth 10000 in
set_option maxHeartbeats 1000000 in
theorem rlcNil_walk (kd now n : Int) (A : Option Addr) (m c : Nat) (w : World) :
    Calls Tryz.prog 5 #[.agg #[.int .i64 kd, .int .i64 now, .int .i64 n, .slice A m c]] w (IsTrue w) := by
  go_enter Tryz.func5, Tryz.ntmps5
  go_wp2
  have hM : NilMem w now n A m c (((w.alloc (.cells #[.int .i64 kd, .int .i64 now, .int .i64 n, .slice A m c] 53)).alloc (.cells #[.int .i64 0, .nilIface, .pointer none] 67)).alloc (.cells #[.pointer none, .pointer (some ⟨w.heap.size + 1, 0, none⟩)] 27)) := by
    have b1 := (Blk.new (w.alloc (.cells #[.int .i64 kd, .int .i64 now, .int .i64 n, .slice A m c] 53)) 67 #[.int .i64 0, .nilIface, .pointer none]).alloc (.cells #[.pointer none, .pointer (some ⟨w.heap.size + 1, 0, none⟩)] 27)
    have b2 := Blk.new ((w.alloc (.cells #[.int .i64 kd, .int .i64 now, .int .i64 n, .slice A m c] 53)).alloc (.cells #[.int .i64 0, .nilIface, .pointer none] 67)) 27 #[.pointer none, .pointer (some ⟨w.heap.size + 1, 0, none⟩)]
    simp only [World.size_alloc] at b1 b2
    exact ⟨⟨kd, ((Blk.new w 53 _).alloc _).alloc _⟩, b1, b2, (((Below.refl w.heap.size w).alloc (Nat.le_refl _) _).alloc (by simp) _).alloc (by simp; omega) _⟩
  generalize ((w.alloc (.cells #[.int .i64 kd, .int .i64 now, .int .i64 n, .slice A m c] 53)).alloc (.cells #[.int .i64 0, .nilIface, .pointer none] 67)).alloc (.cells #[.pointer none, .pointer (some ⟨w.heap.size + 1, 0, none⟩)] 27) = w0 at *
  go_loopg [6] 2 (fun gk s6 wr => ∃ k : Nat, gk = 2 - k ∧ k ≤ 2 ∧ s6 = .int .i64 k ∧ NilMem w now n A m c wr)
  case atStart => exact ⟨0, by omega, by omega, rfl, hM⟩
  case round =>
    obtain ⟨k, hgk, hk, rfl, hMr⟩ := hrel
    have HGK := Lib.hid hgk
    have HM := Lib.hid hMr
    clear hgk hMr hM
    by_cases hlt : k < 2
    · obtain ⟨p, hcell, hnone⟩ := HM.out.elem k hlt
      have HCELL := Lib.hid hcell
      have HNONE := Lib.hid hnone
      have hk0 : (0 : Int) ≤ (k : Int) := by omega
      have hk2 : (k : Int) < 2 := by omega
      clear hcell hnone
      go_wp2_with fail
      obtain ⟨wo, rfl⟩ : ∃ wo : World, wo = wr := ⟨_, rfl⟩
      go_loopg [7] 4 (fun gj s7 wr => ∃ j : Nat, gj = 4 - j ∧ j ≤ 4 ∧ s7 = .int .i64 ((j : Int) + 1) ∧ NilMem w now n A m c wr)
      case atStart => exact ⟨0, by omega, by omega, rfl, HM.out⟩
      case round =>
        obtain ⟨j, hgj, hj, rfl, hMj⟩ := hrel
        have HGJ := Lib.hid hgj
        have HMJ := Lib.hid hMj
        clear hgj hMj
        by_cases hlt4 : j < 4
        · obtain ⟨kd', hx⟩ := HMJ.out.x
          obtain ⟨y0, y1, y2, y3⟩ := hx.four_
          have f0 := hx.frozen 0
          have hx' := hx.set_ 0 (.int .i64 ((j : Int) + 1))
          simp at hx'
          have hM' : NilMem w now n A m c (wr.setCell ⟨w.heap.size, 0, none⟩ (.int .i64 ((j : Int) + 1))) := ⟨⟨_, hx'⟩, HMJ.out.z.far (by simp) _, HMJ.out.l.far (by simp; omega) _, HMJ.out.bel.setCell (Nat.le_refl _) _⟩
          have HM' := Lib.hid hM'
          have HX' := Lib.hid hx'
          clear hx hx' hM'
          go_wp2_with fail
          generalize wr.setCell ⟨w.heap.size, 0, none⟩ (.int .i64 ((j : Int) + 1)) = w5 at *
          obtain ⟨z0, z1, z2, z3⟩ := HX'.out.four_
          have hce := HCELL.out w5 HM'.out.l
          have hno := HNONE.out w5 HM'.out.z
          have hcl := call_none p ((j : Int) + 1) now n A m c w5.drew hno (by omega)
          have HCL := Lib.hid hcl
          have hl0 : w.heap.size < w5.drew.heap.size := HX'.out.lt
          have hl2 : w.heap.size + 1 + 1 < w5.drew.heap.size := HM'.out.l.lt
          clear hno hcl y0 y1 y2 y3 f0
          go_region_held3 (fun w' => w'.cell? ⟨w.heap.size + 1 + 1, k, none⟩ = some p ∧ w'.cell? ⟨w.heap.size, 0, none⟩ = some (.int .i64 ((j : Int) + 1)) ∧ w'.cell? ⟨w.heap.size, 1, none⟩ = some (.int .i64 now) ∧ w'.cell? ⟨w.heap.size, 2, none⟩ = some (.int .i64 n) ∧ w'.cell? ⟨w.heap.size, 3, none⟩ = some (.slice A m c))
            (first | (exact ⟨(hb1.cell (p := ⟨w.heap.size + 1 + 1, k, none⟩) hl2).trans hce, (hb1.cell (p := ⟨w.heap.size, 0, none⟩) hl0).trans z0, (hb1.cell (p := ⟨w.heap.size, 1, none⟩) hl0).trans z1, (hb1.cell (p := ⟨w.heap.size, 2, none⟩) hl0).trans z2, (hb1.cell (p := ⟨w.heap.size, 3, none⟩) hl0).trans z3⟩) | go_keep)
            ((go_at_call 25; refine HCL.out.mono ?_; rintro e1 w1 ⟨rfl, hb1⟩))
          have hb1' : Below w5.heap.size w5 w1 := ((Below.refl w5.heap.size w5).drew).trans hb1
          go_wp2_with fail
          go_roundg (4 - (j + 1))
          case measure => rw [HGJ.out]; omega
          case rel => exact ⟨j + 1, rfl, by omega, by go_num, HM'.out.more hb1'⟩
        · have hno := fun q => HNONE.out (wr.drewN q) HMJ.out.z
          have hce := HCELL.out wr HMJ.out.l
          have hac := fun q => acked_none p (wr.drewN q) (hno q)
          have H1 := Lib.hid (fun q => mode_none p (wr.drewN q) (hno q))
          have H2 := Lib.hid (fun q => buffered_none p (wr.drewN q) (hno q))
          have H3 := Lib.hid (fun q => confirmed_of p (wr.drewN q) (hac q))
          have H4 := Lib.hid (fun q => unconfirmed_of p (wr.drewN q) (hac q))
          have H5 := Lib.hid (fun q => failed_of p (wr.drewN q) (hac q))
          have H6 := Lib.hid (fun q a => reports_of p a (wr.drewN q) (hac q))
          obtain ⟨kd', hx⟩ := HMJ.out.x
          obtain ⟨z0, z1, z2, z3⟩ := hx.four_
          clear hno hac hx
          go_wp2_with fail
          go_quiet (first | (go_at_call 11; exact Calls.quiet_of_same (H1.out _)) | (go_at_call 12; exact Calls.quiet_of_same (H2.out _)) | (go_at_call 14; exact Calls.quiet_of_same (H3.out _)) | (go_at_call 15; exact Calls.quiet_of_same (H4.out _)) | (go_at_call 13; exact Calls.quiet_of_same (H5.out _)) | (go_at_call 26; exact Calls.quiet_of_same (H6.out _ _)))
          go_wp2_with fail
          go_roundg (2 - (k + 1))
          case measure => rw [HGK.out]; omega
          case rel => exact ⟨k + 1, rfl, by omega, by go_num, HMJ.out.more ((Below.refl _ _).drewN _)⟩
    · go_wp2_with (first | (go_at_call 27; refine (copy_nil _).mono ?_; rintro e1 w1 ⟨rfl, rfl⟩) | (go_at_call 10; refine (known_any _).mono ?_; rintro e1 w1 ⟨rfl, hb1⟩))
      go_ret
      exact ⟨rfl, HM.out.bel.trans (hb1.mono HM.out.bel.size)⟩
end Go.Proofs.YthicdlbelhokjaaGreat
