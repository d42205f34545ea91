/- umsend: put of one SDU. umsend: Submit. -/
import Derived.Test.YtbjajboodohabaaGreatJa
import Derived.Test.YtbjajboodohabaaGreatYa
import Derived.Deep.RegionLaw
import Derived.ScopeJumps
import Derived.WalkMore
namespace Go.Proofs.YtbjajboodohabaaGreat
open Go.RowKit Go.Shelf
attribute [local go_sem] Oper.semAt_some

/-- what a queue's calls may change: its cells, its row -/
def MQ (g : Nat) (v : Value) (k : Nat) (_ : Obj) : Prop := k = g ∨ qBlock v = some k
/-- one SDU is put -/
def PutOne (w : World) (base g : Nat) (v : Value) (sent cap next : Nat) (sdus : List (List UInt8)) (x : List UInt8) (w' : World) : Prop :=
  ∃ v' vs', Snd w' base g v' vs' (sdus ++ [x]) sent cap next ∧ Kept (MQ g v) w w' ∧ (∀ k, qBlock v' = some k → qBlock v = some k ∨ w.heap.size ≤ k)
def PutRel (w : World) (base g : Nat) (v : Value) (sent cap next : Nat) (sdus : List (List UInt8)) (x : List UInt8) (i : Value) (wr : World) : Prop :=
  (i = .int .i64 0 ∧ w = wr) ∨ (i = .int .i64 1 ∧ PutOne w base g v sent cap next sdus x wr)

set_option maxRecDepth 10000 in
set_option maxHeartbeats 1000000 in
theorem sput_any (g base b sent cap next : Nat) (v : Value) (vs : List Value) (sdus : List (List UInt8)) (A : Option Addr) (n c : Nat) (x : List UInt8) (w : World) (h : Snd w base g v vs sdus sent cap next) (hb : Blk w b 40 #[.slice A n c])
    (hx : Sl w w.heap.size A n c (bvs x)) (hn : n ≤ 1000000) (hsd : sdus.length ≤ 1000000) (hbase : base ≤ w.heap.size) :
    Calls Tryz.prog 27 #[.pointer (some ⟨g, 0, none⟩), .slice (some ⟨b, 0, none⟩) 1 1] w fun e w' => e = .returned (.tuple #[]) ∧ PutOne w base g v sent cap next sdus x w' := by
  obtain ⟨j0, hj0, hm0, hm1, hm2⟩ := info_parts sl_info
  go_enter Tryz.func27, Tryz.ntmps27
  go_wp2
  go_loopw [8] (fun i wr => PutRel w base g v sent cap next sdus x i wr) (fun i _ => 1 - (intOf i).toNat)
  case atStart => exact .inl ⟨rfl, rfl⟩
  case round =>
    rcases hrel with ⟨rfl, rfl⟩ | ⟨rfl, hp⟩
    · have y0 := hb.cell 0
      simp at y0
      obtain ⟨x0, x1, x2, x3⟩ := h.blk.four'
      have f0 := h.blk.frozen 0
      have hcl := clone_any A n c x w.drew hx.drew (by omega)
      have HCL := Lib.hid hcl
      clear hcl
      have hgl := h.blk.lt
      obtain ⟨Av, cv, rfl, hsv⟩ := h.row.sl
      go_wp2_with fail
      go_region_law (first
        | ((refine step_append_q (by rfl) _ _ 47 (by rfl) j0 (.slice none 0 0) 24 und22 hj0 hm0 hm1 hm2 rfl (by rfl) ((h.row.drew.below hb1 (Nat.le_refl _)).alloc (.cells #[.slice A1 n c1] 40)) ⟨w1.heap.size, 0, none⟩ 1 (.slice A1 n c1) (by rfl) (World.news_of_block (heap_alloc_new w1 _) 0 _ rfl) rfl (by unfold maxLen; omega) (by omega) (by simp; have := hb1.size; simp at this; omega) ?_; intro v5 w5 hown5 hgrow5 hq5; obtain ⟨A5, c5, rfl, hs5⟩ := hown5.sl; have hG5 := ((h.blk.drew.below hb1 h.blk.lt).alloc (.cells #[.slice A1 n c1] 40)).grown hgrow5 (fun e => ((h.row.drew.below hb1 (Nat.le_refl _)).alloc (.cells #[.slice A1 n c1] 40)).blk_ne ((h.blk.drew.below hb1 h.blk.lt).alloc (.cells #[.slice A1 n c1] 40)) (by decide) e.symm); have q2 := hG5.cell 0; have q3 := hG5.frozen 0; simp at q2))
        | ((go_simp; (with_reducible refine HCL.out.mono ?_); rintro e1 w1 ⟨v1, rfl, hv1, hb1⟩; obtain ⟨A1, c1, rfl, hs1, _⟩ := own_sl hv1; have x0' := (hb1.cell (p := ⟨g, 0, none⟩) hgl).trans x0; have hgl1 : g < w1.heap.size := Nat.lt_of_lt_of_le hgl hb1.size; have x0'' := (World.cell?_alloc_lt w1 (.cells #[.slice A1 n c1] 40) ⟨g, 0, none⟩ hgl1).trans x0'; have f0' := (hb1.frozen (p := ⟨g, 0, none⟩) hgl).trans f0)))
      all_goals
        have hb1' : Below w.heap.size w w1 := ((Below.refl w.heap.size w).drew).trans hb1
        have hz1 := hb1'.size
        have hG6 := hG5.set_ 0 (.slice A5 (sdus.length + 1) c5)
        simp at hG6
        have hQ6 := hown5.store (i := 0) hG5 (by decide) (.slice A5 (sdus.length + 1) c5)
        have hKw1 : Kept (MQ g (.slice Av sdus.length cv)) w w1 := (Kept.of_below hb1').mono_at (fun k o ho hm => by have := lt_of_heap ho; omega)
        have hrow1 := (h.row.below hb1' (Nat.le_refl _)).alloc (.cells #[.slice A1 n c1] 40)
        have hK5 : Kept (MQ g (.slice Av sdus.length cv)) w w5 := (hKw1.alloc (.cells #[.slice A1 n c1] 40)).grown hgrow5 (fun k hk o ho => .inr hk)
        have hK6 : Kept (MQ g (.slice Av sdus.length cv)) w (w5.setCell ⟨g, 0, none⟩ (.slice A5 (sdus.length + 1) c5)) := hK5.setCell (p := ⟨g, 0, none⟩) (fun _ _ => .inl rfl) _
        have hq6 : ∀ k, qBlock (.slice A5 (sdus.length + 1) c5) = some k → qBlock (.slice Av sdus.length cv) = some k ∨ w.heap.size ≤ k := fun k hk => (hq5 k hk).imp id (fun h => by simp at h; omega)
        have hne5 : ∀ {m : Nat} {v' : Value} {ys : List Value}, (w1.alloc (.cells #[.slice A1 n c1] 40)).ownsRow base 5 1 v' m ys → (w5.setCell ⟨g, 0, none⟩ (.slice A5 (sdus.length + 1) c5)).ownsRow base 5 1 v' m ys := fun {m v' ys} ho => by
          refine own_store (i := 0) (ho.kept hgrow5 ?_) hG5 (by decide) _
          rcases hvb : v'.ownBlock with _ | j
          · exact .inl rfl
          · refine .inr (fun e => ?_)
            obtain ⟨o2, ho2, ⟨cs2, fr2, rfl⟩, _⟩ := own_isRow ho hvb
            obtain ⟨cur, hh, _⟩ := hrow1.row e.symm
            rw [hh] at ho2
            cases ho2
        go_wp2_with fail
        go_roundw
        case rel =>
          refine .inr ⟨rfl, _, _, ⟨hG6, by simpa using hQ6, fun i p hi => ?_⟩, hK6, hq6⟩
          rcases Nat.lt_or_ge i sdus.length with hlt | hge
          · rw [List.getElem?_append_left hlt] at hi
            obtain ⟨A', c', k1, k2⟩ := h.each i p hi
            exact ⟨A', c', by rw [List.getElem?_append_left (by rw [h.row.1]; exact hlt)]; exact k1, hne5 ((own_below k2 hb1' (Nat.le_refl _)).alloc _)⟩
          · have hi0 : i = sdus.length := by
              have := (List.getElem?_eq_some_iff.1 hi).1
              simp at this
              omega
            subst hi0
            simp at hi
            subst hi
            have hxl : x.length = n := by simpa using hx.len
            subst hxl
            exact ⟨A1, c1, by rw [← h.row.1]; simp, hne5 ((own_base hv1 hbase).alloc _)⟩
        case measure => simp [intOf]
    · go_wp2
      go_end0
      exact ⟨rfl, hp⟩
end Go.Proofs.YtbjajboodohabaaGreat
namespace Go.Proofs.YtbjajboodohabaaGreat
open Go.RowKit Go.Shelf
attribute [local go_sem] Oper.semAt_some

theorem Snd.drewN {w : World} {base g : Nat} {v : Value} {vs : List Value} {sdus : List (List UInt8)} {sent cap next : Nat} (h : Snd w base g v vs sdus sent cap next) (k : Nat) : Snd (w.drewN k) base g v vs sdus sent cap next :=
  ⟨h.blk, h.row, h.each⟩
theorem Snd.alloc {w : World} {base g : Nat} {v : Value} {vs : List Value} {sdus : List (List UInt8)} {sent cap next : Nat} (h : Snd w base g v vs sdus sent cap next) (o : Obj) : Snd (w.alloc o) base g v vs sdus sent cap next :=
  h.below ((Below.refl _ w).alloc (Nat.le_refl _) o) (Nat.le_refl _)
theorem sleft_quiet (g base sent cap next : Nat) (v : Value) (vs : List Value) (sdus : List (List UInt8)) (w : World) (h : Snd w base g v vs sdus sent cap next) (hsum : sumLen sdus ≤ 1152921504606846976) (hsent : sent ≤ 1152921504606846976) (k : Nat) :
    Calls Tryz.prog 26 #[.pointer (some ⟨g, 0, none⟩)] (w.drewN k) fun e w' => e = .returned (.int .i64 ((sumLen sdus : Int) - sent)) ∧ ∃ m, w' = (w.drewN k).drewN m :=
  (sleft_any g base sent cap next v vs sdus _ (h.drewN k) hsum hsent).mono fun _ _ ⟨h1, m, h2⟩ => ⟨h1, m, h2.symm⟩
/-- the frame at the label of Submit's errors -/
def SubJ (R : World → Prop) (g : Nat) (A : Option Addr) (n c : Nat) (er : Int) (a' : Act) (w' : World) : Prop :=
  R w' ∧ ∃ u5 u6 u7 u8 u9 u10 u11 u12 u13 u14 u15 u16 u17 u18 u19 u20 u21 u22 u23 u24 u25 u26 u27 u28 u29 u30 u31 u32 u33 : Value, a' = { tmps := #[.pointer (some ⟨g, 0, none⟩), .slice A n c, undef, undef, .int .i64 er, u5, u6, u7, u8, u9, u10, u11, u12, u13, u14, u15, u16, u17, u18, u19, u20, u21, u22, u23, u24, u25, u26, u27, u28, u29, u30, u31, u32, u33], defers := [] }
set_option maxRecDepth 10000 in
theorem ssubmit_size (g base sent cap next : Nat) (v : Value) (vs : List Value) (sdus : List (List UInt8)) (A : Option Addr) (n c : Nat) (w : World) (h : Snd w base g v vs sdus sent cap next) (hc : 1 ≤ cap) (hn : n = 0 ∨ 9000 < n) (_hnm : n ≤ c) (_hcm : c ≤ 9223372036854775807) :
    Calls Tryz.prog 10 #[.pointer (some ⟨g, 0, none⟩), .slice A n c] w fun e w' => e = .returned (.int .i64 2) ∧ w = w' := by
  have hno := snone_any g cap _ _ _ w h.blk hc
  have HN := Lib.hid hno
  clear hno
  by_cases h0 : n = 0
  · have d0 : ((n : Int) == 0) = true := by simp; omega
    have HH := Lib.hid h0
    clear h0 hn
    go_enter Tryz.func10, Tryz.ntmps10
    go_wp2_with fail
    refine wp_scope_jumps 0 (SubJ (fun w' => w = w') g A n c 2) (fun _ _ => 0) rfl ?_ ?_
    · go_wp2_with (go_at_call 25; refine HN.out.mono ?_; rintro e1 w1 ⟨rfl, rfl⟩)
      go_step3
      exact ⟨rfl, rfl, _, _, _, _, _, _, _, _, _, _, _, _, _, _, _, _, _, _, _, _, _, _, _, _, _, _, _, _, _, rfl⟩
    · rintro a' w' ⟨rfl, u5, u6, u7, u8, u9, u10, u11, u12, u13, u14, u15, u16, u17, u18, u19, u20, u21, u22, u23, u24, u25, u26, u27, u28, u29, u30, u31, u32, u33, rfl⟩
      go_wp2
      simp only [Exit.jump]
      go_ret
      exact ⟨rfl, rfl⟩
  · have d0 : ((n : Int) == 0) = false := by simp; omega
    have d1 : decide ((9000 : Int) < n) = true := by simp; omega
    have hn0 : 0 < n := by omega
    clear h0 hn
    go_enter Tryz.func10, Tryz.ntmps10
    go_wp2_with fail
    refine wp_scope_jumps 0 (SubJ (fun w' => w = w') g A n c 2) (fun _ _ => 0) rfl ?_ ?_
    · go_wp2_with (go_at_call 25; refine HN.out.mono ?_; rintro e1 w1 ⟨rfl, rfl⟩)
      go_step3
      exact ⟨rfl, rfl, _, _, _, _, _, _, _, _, _, _, _, _, _, _, _, _, _, _, _, _, _, _, _, _, _, _, _, _, _, rfl⟩
    · rintro a' w' ⟨rfl, u5, u6, u7, u8, u9, u10, u11, u12, u13, u14, u15, u16, u17, u18, u19, u20, u21, u22, u23, u24, u25, u26, u27, u28, u29, u30, u31, u32, u33, rfl⟩
      go_wp2
      simp only [Exit.jump]
      go_ret
      exact ⟨rfl, rfl⟩
set_option maxRecDepth 10000 in
set_option maxHeartbeats 800000 in
theorem ssubmit_full (g base sent cap next : Nat) (v : Value) (vs : List Value) (sdus : List (List UInt8)) (A : Option Addr) (n c : Nat) (w : World) (h : Snd w base g v vs sdus sent cap next) (hc : 1 ≤ cap) (hn0 : 0 < n) (hn : n ≤ 9000) (_hnm : n ≤ c) (_hcm : c ≤ 9223372036854775807)
    (hsum : sumLen sdus ≤ 1000000000) (hsent : sent ≤ sumLen sdus) (hcap : cap ≤ 1048576) (hf : cap + sent < sumLen sdus + n) :
    Calls Tryz.prog 10 #[.pointer (some ⟨g, 0, none⟩), .slice A n c] w (NumberD 7 w) := by
  have hno := snone_any g cap _ _ _ w h.blk hc
  have hlf := sleft_quiet g base sent cap next v vs sdus w h (by omega) (by omega)
  obtain ⟨x0, x1, x2, x3⟩ := h.blk.four'
  have d0 : ((n : Int) == 0) = false := by simp; omega
  have d1 : decide ((9000 : Int) < n) = false := by simp; omega
  generalize sumLen sdus = S at *
  have hwr : IntKind.i64.wrap ((S : Int) - sent + n) = (S : Int) - sent + n := IntWalk.i64_in _ (by omega)
  have d2 : decide ((cap : Int) < (S : Int) - sent + n) = true := by simp; omega
  have HN := Lib.hid hno
  have HLF := Lib.hid hlf
  clear hno hlf
  go_enter Tryz.func10, Tryz.ntmps10
  go_wp2_with fail
  refine wp_scope_jumps 0 (SubJ (fun w' => Drew w w') g A n c 7) (fun _ _ => 0) rfl ?_ ?_
  · go_wp2_with (go_at_call 25; refine HN.out.mono ?_; rintro e1 w1 ⟨rfl, rfl⟩)
    go_quiet ((go_at_call 26; exact Calls.quiet_of (HLF.out _)))
    go_wp2
    go_step3
    exact ⟨rfl, ⟨_, rfl⟩, _, _, _, _, _, _, _, _, _, _, _, _, _, _, _, _, _, _, _, _, _, _, _, _, _, _, _, _, _, rfl⟩
  · rintro a' w' ⟨hdr, u5, u6, u7, u8, u9, u10, u11, u12, u13, u14, u15, u16, u17, u18, u19, u20, u21, u22, u23, u24, u25, u26, u27, u28, u29, u30, u31, u32, u33, rfl⟩
    go_wp2
    simp only [Exit.jump]
    go_ret
    exact ⟨rfl, hdr⟩
set_option maxRecDepth 10000 in
set_option maxHeartbeats 800000 in
theorem ssubmit_ok (g base sent cap next : Nat) (v : Value) (vs : List Value) (sdus : List (List UInt8)) (A : Option Addr) (n c : Nat) (x : List UInt8) (w : World) (h : Snd w base g v vs sdus sent cap next) (hx : Sl w w.heap.size A n c (bvs x)) (hc : 1 ≤ cap) (hn0 : 0 < n) (hn : n ≤ 9000)
    (hsum : sumLen sdus ≤ 1000000000) (hsent : sent ≤ sumLen sdus) (hcap : cap ≤ 1048576) (hf : sumLen sdus + n ≤ cap + sent) (hsd : sdus.length ≤ 1000000) (hbase : base ≤ w.heap.size) :
    Calls Tryz.prog 10 #[.pointer (some ⟨g, 0, none⟩), .slice A n c] w fun e w' => e = .returned (.int .i64 0) ∧ PutOne w base g v sent cap next sdus x w' := by
  have hno := snone_any g cap _ _ _ w h.blk hc
  have hlf := sleft_quiet g base sent cap next v vs sdus w h (by omega) (by omega)
  obtain ⟨x0, x1, x2, x3⟩ := h.blk.four'
  have hnm := hx.cap
  have hcm := hx.mx
  have d0 : ((n : Int) == 0) = false := by simp; omega
  have d1 : decide ((9000 : Int) < n) = false := by simp; omega
  generalize sumLen sdus = S at *
  have hwr : IntKind.i64.wrap ((S : Int) - sent + n) = (S : Int) - sent + n := IntWalk.i64_in _ (by omega)
  have d2 : decide ((cap : Int) < (S : Int) - sent + n) = false := by simp; omega
  have hput := fun k => sput_any g base w.heap.size sent cap next v vs sdus A n c x ((w.drewN k).alloc (.cells #[.slice A n c] 40)) ((h.drewN k).alloc _) (Blk.new _ _ _) ((hx.drewN k).alloc (Nat.le_refl _) _ |>.more (by simp)) (by omega) hsd (by simp; omega)
  have HN := Lib.hid hno
  have HLF := Lib.hid hlf
  have HPUT := Lib.hid hput
  clear hno hlf hput
  go_enter Tryz.func10, Tryz.ntmps10
  go_wp2_with fail
  go_step3
  go_wp2_with (go_at_call 25; refine HN.out.mono ?_; rintro e1 w1 ⟨rfl, rfl⟩)
  go_quiet ((go_at_call 26; exact Calls.quiet_of (HLF.out _)))
  go_wp2_with fail
  refine (HPUT.out _).mono ?_
  rintro e2 w2 ⟨rfl, v', vs', hs2, hk2, hq2⟩
  go_wp2
  rw [Exit.noGoto_ret]
  go_ret
  exact ⟨rfl, v', vs', hs2, (((Kept.refl _ w).drewN _).alloc _).trans hk2, fun k hk => (hq2 k hk).imp id (fun h => by simp at h; omega)⟩
end Go.Proofs.YtbjajboodohabaaGreat
