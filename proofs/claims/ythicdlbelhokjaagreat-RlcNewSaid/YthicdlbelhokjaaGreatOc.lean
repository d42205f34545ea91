/- Arguments opened: a configuration of an entity. -/
import Derived.Test.YthicdlbelhokjaaGreatOa
import Derived.Test.YthicdlbelhokjaaGreatAd
namespace Go.Proofs.YthicdlbelhokjaaGreat
open Go.ChangeShapes Go.WideShapes Go.ChangeAt Go.RowKit Go.Deep Go.Joins

theorem array10 {α : Type} {cs : Array α} (h : cs.size = 10) : ∃ c0 c1 c2 c3 c4 c5 c6 c7 c8 c9, cs = #[c0, c1, c2, c3, c4, c5, c6, c7, c8, c9] := by
  obtain ⟨l⟩ := cs
  match l, h with
  | [c0, c1, c2, c3, c4, c5, c6, c7, c8, c9], _ => exact ⟨c0, c1, c2, c3, c4, c5, c6, c7, c8, c9, rfl⟩
theorem Tryz.cellsCfg : Tryz.prog.cellsOf 26 = 10 ∧ Tryz.prog.cellsOf 24 = 7 ∧ Tryz.prog.cellsOf 22 = 1 ∧ Tryz.prog.cellsOf 3 = 1 := ⟨by kernel_rfl, by kernel_rfl, by kernel_rfl, by kernel_rfl⟩
section
variable {H : Type} {enc : TypeId × Value → H} {w : World} {base : Nat} {spare : Nat → Bool} {held : Bool}
theorem one_int {fuel : Nat} {c : Value} {x : DataW H × List MemPlace} (h : DataW.trod enc Tryz.prog w base spare held fuel 3 [c] = some x) : ∃ k : Int, c = .int .i64 k := by
  obtain ⟨k0, e0, _⟩ := DataW.trod_int Tryz.underlying3 h
  simp at e0
  exact ⟨k0, e0⟩
theorem one_mode {fuel : Nat} {c : Value} {x : DataW H × List MemPlace} (h : DataW.trod enc Tryz.prog w base spare held fuel 22 [c] = some x) : ∃ k : Int, c = .int .i64 k := by
  obtain ⟨k0, e0, _⟩ := DataW.trod_int Tryz.underlying22 h
  simp at e0
  exact ⟨k0, e0⟩
theorem open_am {fuel : Nat} {c0 c1 c2 c3 c4 c5 c6 : Value} {x : DataW H × List MemPlace} (h : DataW.trod enc Tryz.prog w base spare held fuel 24 [c0, c1, c2, c3, c4, c5, c6] = some x) :
    ∃ a0 a1 a2 a3 a4 a5 a6 : Int, c0 = .int .i64 a0 ∧ c1 = .int .i64 a1 ∧ c2 = .int .i64 a2 ∧ c3 = .int .i64 a3 ∧ c4 = .int .i64 a4 ∧ c5 = .int .i64 a5 ∧ c6 = .int .i64 a6 := by
  obtain ⟨xs, n, _, _, _, hlen, hf⟩ := DataW.trod_struct Tryz.underlying24 h
  match xs, hlen with
  | [y0, y1, y2, y3, y4, y5, y6], _ =>
    have h0 := hf 0 _ rfl
    have h1 := hf 1 _ rfl
    have h2 := hf 2 _ rfl
    have h3 := hf 3 _ rfl
    have h4 := hf 4 _ rfl
    have h5 := hf 5 _ rfl
    have h6 := hf 6 _ rfl
    simp [Tryz.cellsCfg] at h0 h1 h2 h3 h4 h5 h6
    obtain ⟨k0, rfl⟩ := one_int h0
    obtain ⟨k1, rfl⟩ := one_int h1
    obtain ⟨k2, rfl⟩ := one_int h2
    obtain ⟨k3, rfl⟩ := one_int h3
    obtain ⟨k4, rfl⟩ := one_int h4
    obtain ⟨k5, rfl⟩ := one_int h5
    obtain ⟨k6, rfl⟩ := one_int h6
    exact ⟨k0, k1, k2, k3, k4, k5, k6, rfl, rfl, rfl, rfl, rfl, rfl, rfl⟩
theorem open_cfg10 {fuel : Nat} {c0 c1 c2 c3 c4 c5 c6 c7 c8 c9 : Value} {x : DataW H × List MemPlace} (h : DataW.trod enc Tryz.prog w base spare held fuel 26 [c0, c1, c2, c3, c4, c5, c6, c7, c8, c9] = some x) :
    ∃ m c r a0 a1 a2 a3 a4 a5 a6 : Int, #[c0, c1, c2, c3, c4, c5, c6, c7, c8, c9] = cfg m c r a0 a1 a2 a3 a4 a5 a6 := by
  obtain ⟨y0, y1, y2, y3, n, hx, _, h0, h1, h2, h3⟩ := trod_struct4 Tryz.underlying26 h
  simp [Tryz.cellsCfg] at h0 h1 h2 h3
  obtain ⟨k0, rfl⟩ := one_mode h0
  obtain ⟨k1, rfl⟩ := one_int h1
  obtain ⟨k2, rfl⟩ := one_int h2
  obtain ⟨a0, a1, a2, a3, a4, a5, a6, rfl, rfl, rfl, rfl, rfl, rfl, rfl⟩ := open_am h3
  exact ⟨k0, k1, k2, a0, a1, a2, a3, a4, a5, a6, rfl⟩
set_option maxRecDepth 100000 in
theorem open_cfg {r : Reach} {b0 : Nat} {v : Value} {d : DataW H} {p : List MemPlace} (hv : Value.okWide Tryz.prog w r b0 26 v) (h : DataW.Trod enc Tryz.prog w base spare held 26 v d p) :
    ∃ m c r a0 a1 a2 a3 a4 a5 a6 : Int, v = .agg (cfg m c r a0 a1 a2 a3 a4 a5 a6) := by
  obtain ⟨cs, rfl, hsz⟩ := okWide_struct Tryz.underlying26 hv
  obtain ⟨c0, c1, c2, c3, c4, c5, c6, c7, c8, c9, rfl⟩ := array10 (hsz.trans Tryz.cellsCfg.1)
  obtain ⟨fuel, hf⟩ := h
  obtain ⟨m, c, r, a0, a1, a2, a3, a4, a5, a6, e⟩ := open_cfg10 (by simpa [Value.cells] using hf)
  exact ⟨m, c, r, a0, a1, a2, a3, a4, a5, a6, by rw [e]⟩
end
end Go.Proofs.YthicdlbelhokjaaGreat
