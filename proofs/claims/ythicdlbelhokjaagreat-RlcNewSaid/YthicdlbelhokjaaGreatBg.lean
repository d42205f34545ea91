/- rlc: the methods on a new entity of any mode. -/
import Derived.Test.YthicdlbelhokjaaGreatBf
namespace Go.Proofs.YthicdlbelhokjaaGreat
open Go.RowKit Go.Shelf
attribute [local go_sem] Oper.semAt_some

theorem Made.below {w W W' : World} {m k c a0 a1 a2 a3 a4 a5 a6 : Int} {g B : Nat} (h : Made w m k c a0 a1 a2 a3 a4 a5 a6 g W) (hb : Below B W W') (hB : W.heap.size ≤ B) : Made w m k c a0 a1 a2 a3 a4 a5 a6 g W' := by
  have f : ∀ {g : Nat} {t : TypeId} {cs : Array Value}, Blk W g t cs → Blk W' g t cs := fun b => b.below hb (by have := b.lt; omega)
  rcases h with ⟨hm, t, h1, h2, h3⟩ | ⟨hm, u, s, q, h1, h2, h3, h4⟩ | ⟨hm, u, a, s, r, h1, h2, h3, h5, h4⟩
  · exact .inl ⟨hm, t, f h1, f h2, h3⟩
  · exact .inr (.inl ⟨hm, u, s, q, f h1, f h2, f h3, h4⟩)
  · exact .inr (.inr ⟨hm, u, a, s, r, f h1, f h2, f h3, f h5, h4⟩)
theorem mode_any (g : Nat) (k : Int) (x y : Value) (w : World) (hg : Blk w g 67 #[.int .i64 k, x, y]) (hk : (k == 0) = false) : Calls Tryz.prog 11 #[.pointer (some ⟨g, 0, none⟩)] w fun e w' => e = .returned (.int .i64 k) ∧ w' = w := by
  have hno := none_any g k _ _ w hg
  rw [hk] at hno
  have x0 := hg.cell 0
  simp at x0
  have HN := Lib.hid hno
  clear hno hg
  go_enter Tryz.func11, Tryz.ntmps11
  go_wp2_with (go_at_call 36; refine HN.out.mono ?_; rintro e1 w1 ⟨rfl, rfl⟩)
  go_ret
  exact ⟨rfl, rfl⟩
theorem right_timer {a0 a1 a2 a3 a4 a5 a6 : Int} (h : rightB a0 a1 a2 a3 a4 a5 a6 = true) : (a2 == 0) = false := by
  simp [rightB, within, outside] at h
  simp
  omega
/-- the methods' answers on a new entity -/
theorem buffered_made (w W : World) (m c r a0 a1 a2 a3 a4 a5 a6 : Int) (g : Nat) (h : Made w m m c a0 a1 a2 a3 a4 a5 a6 g W) (hv : validB m c r a0 a1 a2 a3 a4 a5 a6 = true) : Calls Tryz.prog 12 #[.pointer (some ⟨g, 0, none⟩)] W (NumB 0 W) := by
  rcases h with ⟨rfl, t, h1, h2, _⟩ | ⟨rfl, u, s, q, h1, h2, h3, _⟩ | ⟨rfl, u, a, s, q, h1, h2, h3, h4, _⟩
  · have hc : 1 ≤ c := by simp [validB] at hv; exact hv.1
    obtain ⟨cap, rfl⟩ : ∃ cap : Nat, c = cap := ⟨c.toNat, by omega⟩
    have he : Ent W W.heap.size g t (.slice none 0 0) [] [] cap := ⟨h1, h2, ownQ_nil _ _ _, fun i p hi => by simp at hi⟩
    refine (rbuffered_any W.heap.size g t _ [] [] cap W he (by decide)).mono ?_
    rintro e w' ⟨rfl, rfl⟩
    exact ⟨rfl, Below.refl _ _⟩
  · have hc : 1 ≤ c := by simp [validB, okU] at hv; omega
    exact buffered_via g u 2 _ 113 243 (.inl ⟨rfl, rfl⟩) W h1 rfl (unbuffered_new u s q c W h2 h3 hc)
  · have hr : rightB a0 a1 a2 a3 a4 a5 a6 = true := by simpa [validB] using hv
    exact buffered_via g u 3 _ 104 82 (.inr ⟨rfl, rfl⟩) W h1 rfl (acbuffered_new u a s q a0 a1 a2 a3 a4 a5 a6 W h2 h3 h4 (right_timer hr))
theorem failed_via (g a : Nat) (k : Int) (x : Value) (w : World) (hg : Blk w g 67 #[.int .i64 k, x, .pointer (some ⟨a, 0, none⟩)]) (hk : (k == 0) = false) (h : Calls Tryz.prog 38 #[.pointer (some ⟨a, 0, none⟩)] w fun e w' => e = .returned (.bool false) ∧ Below w.heap.size w w') :
    Calls Tryz.prog 13 #[.pointer (some ⟨g, 0, none⟩)] w fun e w' => e = .returned (.bool false) ∧ Below w.heap.size w w' := by
  have HA := Lib.hid (acked_any g k _ _ w hg hk)
  have H := Lib.hid h
  clear h hg
  go_enter Tryz.func13, Tryz.ntmps13
  go_wp2_with (first | (go_at_call 37; refine HA.out.mono ?_; rintro e1 w1 ⟨rfl, rfl⟩) | (go_at_call 38; refine H.out.mono ?_; rintro e1 w1 ⟨rfl, hb⟩))
  go_ret
  exact ⟨rfl, hb⟩
theorem confirmed_via (g a : Nat) (k : Int) (x : Value) (w : World) (hg : Blk w g 67 #[.int .i64 k, x, .pointer (some ⟨a, 0, none⟩)]) (hk : (k == 0) = false) (h : Calls Tryz.prog 39 #[.pointer (some ⟨a, 0, none⟩)] w (NumB 0 w)) :
    Calls Tryz.prog 14 #[.pointer (some ⟨g, 0, none⟩)] w (NumB 0 w) := by
  have HA := Lib.hid (acked_any g k _ _ w hg hk)
  have H := Lib.hid h
  clear h hg
  go_enter Tryz.func14, Tryz.ntmps14
  go_wp2_with (first | (go_at_call 37; refine HA.out.mono ?_; rintro e1 w1 ⟨rfl, rfl⟩) | (go_at_call 39; refine H.out.mono ?_; rintro e1 w1 ⟨rfl, hb⟩))
  go_ret
  exact ⟨rfl, hb⟩
theorem unconfirmed_via (g a : Nat) (k : Int) (x : Value) (w : World) (hg : Blk w g 67 #[.int .i64 k, x, .pointer (some ⟨a, 0, none⟩)]) (hk : (k == 0) = false) (h : Calls Tryz.prog 40 #[.pointer (some ⟨a, 0, none⟩)] w fun e w' => e = .returned (.slice none 0 0) ∧ w' = w) :
    Calls Tryz.prog 15 #[.pointer (some ⟨g, 0, none⟩)] w fun e w' => e = .returned (.slice none 0 0) ∧ w' = w := by
  have HA := Lib.hid (acked_any g k _ _ w hg hk)
  have H := Lib.hid h
  clear h hg
  go_enter Tryz.func15, Tryz.ntmps15
  go_wp2_with (first | (go_at_call 37; refine HA.out.mono ?_; rintro e1 w1 ⟨rfl, rfl⟩) | (go_at_call 40; refine H.out.mono ?_; rintro e1 w1 ⟨rfl, rfl⟩))
  go_ret
  exact ⟨rfl, rfl⟩
theorem mode_made (w W : World) (m c a0 a1 a2 a3 a4 a5 a6 : Int) (g : Nat) (h : Made w m m c a0 a1 a2 a3 a4 a5 a6 g W) : Calls Tryz.prog 11 #[.pointer (some ⟨g, 0, none⟩)] W fun e w' => e = .returned (.int .i64 m) ∧ w' = W := by
  have hm : (m == 0) = false := by
    rcases h with ⟨rfl, _⟩ | ⟨rfl, _⟩ | ⟨rfl, _⟩ <;> rfl
  obtain ⟨x, y, hg, _⟩ := h.head
  exact mode_any g m x y W hg hm
theorem failed_made (w W : World) (m c r a0 a1 a2 a3 a4 a5 a6 : Int) (g : Nat) (h : Made w m m c a0 a1 a2 a3 a4 a5 a6 g W) (hv : validB m c r a0 a1 a2 a3 a4 a5 a6 = true) : Calls Tryz.prog 13 #[.pointer (some ⟨g, 0, none⟩)] W fun e w' => e = .returned (.bool false) ∧ Below W.heap.size W w' := by
  rcases h with ⟨rfl, t, h1, h2, _⟩ | ⟨rfl, u, s, q, h1, h2, h3, _⟩ | ⟨rfl, u, a, s, q, h1, h2, h3, h4, _⟩
  · exact (failed_of _ W (acked_any g 1 _ _ W h1 rfl)).mono fun _ _ hh => ⟨hh.1, by rw [hh.2]; exact Below.refl _ _⟩
  · exact (failed_of _ W (acked_any g 2 _ _ W h1 rfl)).mono fun _ _ hh => ⟨hh.1, by rw [hh.2]; exact Below.refl _ _⟩
  · have hr : rightB a0 a1 a2 a3 a4 a5 a6 = true := by simpa [validB] using hv
    exact failed_via g a 3 _ W h1 rfl (amfailed_new a s q a0 a1 a2 a3 a4 a5 a6 W h3 h4 (right_timer hr))
theorem confirmed_made (w W : World) (m c r a0 a1 a2 a3 a4 a5 a6 : Int) (g : Nat) (h : Made w m m c a0 a1 a2 a3 a4 a5 a6 g W) (hv : validB m c r a0 a1 a2 a3 a4 a5 a6 = true) : Calls Tryz.prog 14 #[.pointer (some ⟨g, 0, none⟩)] W (NumB 0 W) := by
  rcases h with ⟨rfl, t, h1, h2, _⟩ | ⟨rfl, u, s, q, h1, h2, h3, _⟩ | ⟨rfl, u, a, s, q, h1, h2, h3, h4, _⟩
  · exact (confirmed_of _ W (acked_any g 1 _ _ W h1 rfl)).mono fun _ _ hh => ⟨hh.1, by rw [hh.2]; exact Below.refl _ _⟩
  · exact (confirmed_of _ W (acked_any g 2 _ _ W h1 rfl)).mono fun _ _ hh => ⟨hh.1, by rw [hh.2]; exact Below.refl _ _⟩
  · have hr : rightB a0 a1 a2 a3 a4 a5 a6 = true := by simpa [validB] using hv
    exact confirmed_via g a 3 _ W h1 rfl (amconfirmed_new a s q a0 a1 a2 a3 a4 a5 a6 W h3 h4 (right_timer hr))
theorem unconfirmed_made (w W : World) (m c r a0 a1 a2 a3 a4 a5 a6 : Int) (g : Nat) (h : Made w m m c a0 a1 a2 a3 a4 a5 a6 g W) (hv : validB m c r a0 a1 a2 a3 a4 a5 a6 = true) : Calls Tryz.prog 15 #[.pointer (some ⟨g, 0, none⟩)] W fun e w' => e = .returned (.slice none 0 0) ∧ w' = W := by
  rcases h with ⟨rfl, t, h1, h2, _⟩ | ⟨rfl, u, s, q, h1, h2, h3, _⟩ | ⟨rfl, u, a, s, q, h1, h2, h3, h4, _⟩
  · exact unconfirmed_of _ W (acked_any g 1 _ _ W h1 rfl)
  · exact unconfirmed_of _ W (acked_any g 2 _ _ W h1 rfl)
  · have hr : rightB a0 a1 a2 a3 a4 a5 a6 = true := by simpa [validB] using hv
    exact unconfirmed_via g a 3 _ W h1 rfl (amunconf_new a s q a0 a1 a2 a3 a4 a5 a6 W h3 h4 (right_timer hr))
end Go.Proofs.YthicdlbelhokjaaGreat
