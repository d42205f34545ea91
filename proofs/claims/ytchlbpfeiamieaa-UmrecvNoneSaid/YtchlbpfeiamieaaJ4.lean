/- umsend: Submit. -/
import Derived.Test.YtchlbpfeiamieaaJ3
import Derived.ScopeJumps
import Derived.WalkMore
namespace Go.Proofs.Ytchlbpfeiamieaa
open Go.RowKit Go.Shelf
attribute [local go_sem] Oper.semAt_some

theorem Snd.drewN {w : World} {base g : Nat} {v : Value} {vs : List Value} {sdus : List (List UInt8)} {sent cap next : Nat} (h : Snd w base g v vs sdus sent cap next) (k : Nat) : Snd (w.drewN k) base g v vs sdus sent cap next :=
  ⟨h.blk, h.row, h.each⟩
theorem Snd.alloc {w : World} {base g : Nat} {v : Value} {vs : List Value} {sdus : List (List UInt8)} {sent cap next : Nat} (h : Snd w base g v vs sdus sent cap next) (o : Obj) : Snd (w.alloc o) base g v vs sdus sent cap next :=
  h.below ((Below.refl _ w).alloc (Nat.le_refl _) o) (Nat.le_refl _)
theorem sleft_quiet (g base sent cap next : Nat) (v : Value) (vs : List Value) (sdus : List (List UInt8)) (w : World) (h : Snd w base g v vs sdus sent cap next) (hsum : sumLen sdus ≤ 1152921504606846976) (hsent : sent ≤ 1152921504606846976) (k : Nat) :
    Calls Try.prog 132 #[.pointer (some ⟨g, 0, none⟩)] (w.drewN k) fun e w' => e = .returned (.int .i64 ((sumLen sdus : Int) - sent)) ∧ ∃ m, w' = (w.drewN k).drewN m :=
  (sleft_any g base sent cap next v vs sdus _ (h.drewN k) hsum hsent).mono fun _ _ ⟨h1, m, h2⟩ => ⟨h1, m, h2.symm⟩
/-- the frame at the label of Submit's errors -/
def SubJ (R : World → Prop) (g : Nat) (A : Option Addr) (n c : Nat) (er : Int) (a' : Act) (w' : World) : Prop :=
  R w' ∧ ∃ u5 u6 u7 u8 u9 u10 u11 u12 u13 u14 u15 u16 u17 u18 u19 u20 u21 u22 u23 u24 u25 u26 u27 u28 u29 u30 u31 u32 u33 : Value, a' = { tmps := #[.pointer (some ⟨g, 0, none⟩), .slice A n c, undef, undef, .int .i64 er, u5, u6, u7, u8, u9, u10, u11, u12, u13, u14, u15, u16, u17, u18, u19, u20, u21, u22, u23, u24, u25, u26, u27, u28, u29, u30, u31, u32, u33], defers := [] }
set_option maxRecDepth 10000 in
theorem ssubmit_size (g base sent cap next : Nat) (v : Value) (vs : List Value) (sdus : List (List UInt8)) (A : Option Addr) (n c : Nat) (w : World) (h : Snd w base g v vs sdus sent cap next) (hc : 1 ≤ cap) (hn : n = 0 ∨ 9000 < n) (_hnm : n ≤ c) (_hcm : c ≤ 9223372036854775807) :
    Calls Try.prog 61 #[.pointer (some ⟨g, 0, none⟩), .slice A n c] w fun e w' => e = .returned (.int .i64 2) ∧ w = w' := by
  have hno := snone_any g cap _ _ _ w h.blk hc
  have HN := Lib.hid hno
  clear hno
  by_cases h0 : n = 0
  · have d0 : ((n : Int) == 0) = true := by simp; omega
    have HH := Lib.hid h0
    clear h0 hn
    go_enter Try.func61, Try.ntmps61
    go_wp2_with fail
    refine wp_scope_jumps 0 (SubJ (fun w' => w = w') g A n c 2) (fun _ _ => 0) rfl ?_ ?_
    · go_wp2_with (go_at_call 131; refine HN.out.mono ?_; rintro e1 w1 ⟨rfl, rfl⟩)
      go_step3
      exact ⟨rfl, rfl, _, _, _, _, _, _, _, _, _, _, _, _, _, _, _, _, _, _, _, _, _, _, _, _, _, _, _, _, _, rfl⟩
    · rintro a' w' ⟨rfl, u5, u6, u7, u8, u9, u10, u11, u12, u13, u14, u15, u16, u17, u18, u19, u20, u21, u22, u23, u24, u25, u26, u27, u28, u29, u30, u31, u32, u33, rfl⟩
      go_wp2
      simp only [Exit.jump]
      go_ret
      exact ⟨rfl, rfl⟩
  · have d0 : ((n : Int) == 0) = false := by simp; omega
    have d1 : decide ((9000 : Int) < n) = true := by simp; omega
    have hn0 : 0 < n := by omega
    clear h0 hn
    go_enter Try.func61, Try.ntmps61
    go_wp2_with fail
    refine wp_scope_jumps 0 (SubJ (fun w' => w = w') g A n c 2) (fun _ _ => 0) rfl ?_ ?_
    · go_wp2_with (go_at_call 131; refine HN.out.mono ?_; rintro e1 w1 ⟨rfl, rfl⟩)
      go_step3
      exact ⟨rfl, rfl, _, _, _, _, _, _, _, _, _, _, _, _, _, _, _, _, _, _, _, _, _, _, _, _, _, _, _, _, _, rfl⟩
    · rintro a' w' ⟨rfl, u5, u6, u7, u8, u9, u10, u11, u12, u13, u14, u15, u16, u17, u18, u19, u20, u21, u22, u23, u24, u25, u26, u27, u28, u29, u30, u31, u32, u33, rfl⟩
      go_wp2
      simp only [Exit.jump]
      go_ret
      exact ⟨rfl, rfl⟩
set_option maxRecDepth 10000 in
set_option maxHeartbeats 800000 in
theorem ssubmit_full (g base sent cap next : Nat) (v : Value) (vs : List Value) (sdus : List (List UInt8)) (A : Option Addr) (n c : Nat) (w : World) (h : Snd w base g v vs sdus sent cap next) (hc : 1 ≤ cap) (hn0 : 0 < n) (hn : n ≤ 9000) (_hnm : n ≤ c) (_hcm : c ≤ 9223372036854775807)
    (hsum : sumLen sdus ≤ 1000000000) (hsent : sent ≤ sumLen sdus) (hcap : cap ≤ 1048576) (hf : cap + sent < sumLen sdus + n) :
    Calls Try.prog 61 #[.pointer (some ⟨g, 0, none⟩), .slice A n c] w (NumberD 7 w) := by
  have hno := snone_any g cap _ _ _ w h.blk hc
  have hlf := sleft_quiet g base sent cap next v vs sdus w h (by omega) (by omega)
  obtain ⟨x0, x1, x2, x3⟩ := h.blk.four'
  have d0 : ((n : Int) == 0) = false := by simp; omega
  have d1 : decide ((9000 : Int) < n) = false := by simp; omega
  generalize sumLen sdus = S at *
  have hwr : IntKind.i64.wrap ((S : Int) - sent + n) = (S : Int) - sent + n := IntWalk.i64_in _ (by omega)
  have d2 : decide ((cap : Int) < (S : Int) - sent + n) = true := by simp; omega
  have HN := Lib.hid hno
  have HLF := Lib.hid hlf
  clear hno hlf
  go_enter Try.func61, Try.ntmps61
  go_wp2_with fail
  refine wp_scope_jumps 0 (SubJ (fun w' => Drew w w') g A n c 7) (fun _ _ => 0) rfl ?_ ?_
  · go_wp2_with (go_at_call 131; refine HN.out.mono ?_; rintro e1 w1 ⟨rfl, rfl⟩)
    go_quiet ((go_at_call 132; exact Calls.quiet_of (HLF.out _)))
    go_wp2
    go_step3
    exact ⟨rfl, ⟨_, rfl⟩, _, _, _, _, _, _, _, _, _, _, _, _, _, _, _, _, _, _, _, _, _, _, _, _, _, _, _, _, _, rfl⟩
  · rintro a' w' ⟨hdr, u5, u6, u7, u8, u9, u10, u11, u12, u13, u14, u15, u16, u17, u18, u19, u20, u21, u22, u23, u24, u25, u26, u27, u28, u29, u30, u31, u32, u33, rfl⟩
    go_wp2
    simp only [Exit.jump]
    go_ret
    exact ⟨rfl, hdr⟩
set_option maxRecDepth 10000 in
set_option maxHeartbeats 800000 in
theorem ssubmit_ok (g base sent cap next : Nat) (v : Value) (vs : List Value) (sdus : List (List UInt8)) (A : Option Addr) (n c : Nat) (x : List UInt8) (w : World) (h : Snd w base g v vs sdus sent cap next) (hx : Sl w w.heap.size A n c (bvs x)) (hc : 1 ≤ cap) (hn0 : 0 < n) (hn : n ≤ 9000)
    (hsum : sumLen sdus ≤ 1000000000) (hsent : sent ≤ sumLen sdus) (hcap : cap ≤ 1048576) (hf : sumLen sdus + n ≤ cap + sent) (hsd : sdus.length ≤ 1000000) (hbase : base ≤ w.heap.size) :
    Calls Try.prog 61 #[.pointer (some ⟨g, 0, none⟩), .slice A n c] w fun e w' => e = .returned (.int .i64 0) ∧ PutOne w base g v sent cap next sdus x w' := by
  have hno := snone_any g cap _ _ _ w h.blk hc
  have hlf := sleft_quiet g base sent cap next v vs sdus w h (by omega) (by omega)
  obtain ⟨x0, x1, x2, x3⟩ := h.blk.four'
  have hnm := hx.cap
  have hcm := hx.mx
  have d0 : ((n : Int) == 0) = false := by simp; omega
  have d1 : decide ((9000 : Int) < n) = false := by simp; omega
  generalize sumLen sdus = S at *
  have hwr : IntKind.i64.wrap ((S : Int) - sent + n) = (S : Int) - sent + n := IntWalk.i64_in _ (by omega)
  have d2 : decide ((cap : Int) < (S : Int) - sent + n) = false := by simp; omega
  have hput := fun k => sput_any g base w.heap.size sent cap next v vs sdus A n c x ((w.drewN k).alloc (.cells #[.slice A n c] 29)) ((h.drewN k).alloc _) (Blk.new _ _ _) ((hx.drewN k).alloc (Nat.le_refl _) _ |>.more (by simp)) (by omega) hsd (by simp; omega)
  have HN := Lib.hid hno
  have HLF := Lib.hid hlf
  have HPUT := Lib.hid hput
  clear hno hlf hput
  go_enter Try.func61, Try.ntmps61
  go_wp2_with fail
  go_step3
  go_wp2_with (go_at_call 131; refine HN.out.mono ?_; rintro e1 w1 ⟨rfl, rfl⟩)
  go_quiet ((go_at_call 132; exact Calls.quiet_of (HLF.out _)))
  go_wp2_with fail
  refine (HPUT.out _).mono ?_
  rintro e2 w2 ⟨rfl, v', vs', hs2, hk2, hq2⟩
  go_wp2
  rw [Exit.noGoto_ret]
  go_ret
  exact ⟨rfl, v', vs', hs2, (((Kept.refl _ w).drewN _).alloc _).trans hk2, fun k hk => (hq2 k hk).imp id (fun h => by simp at h; omega)⟩
end Go.Proofs.Ytchlbpfeiamieaa
