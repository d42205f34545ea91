/- The reference's bits: FromUint, Put. The reference's bits: Valid, Pack, Bytes, Align. The reference of layer 30: Size, Valid, Framing. The reference of layer 30: Tail, Encode. -/
import Derived.Test.YtbjajboodohabaaGreatUa
import Derived.Test.YtbjajboodohabaaGreatMa
import Derived.Test.YtbjajboodohabaaGreatDa
namespace Go.Proofs.YtbjajboodohabaaGreat
open Go.RowKit

theorem bvs_replicate (n : Nat) : (madeCells #[Value.int .u8 0] n).toList = bvs (List.replicate n 0) := by
  rw [toList_madeCells_one]
  simp [bvs, bv]
theorem bv_bit (x : Nat) : Value.int .u8 ((x : Int) % 2) = bv (bb (decide (x % 2 = 1))) := by
  unfold bv
  rw [bb_toNat]
  congr 1
  rcases Nat.mod_two_eq_zero_or_one x with h | h <;> simp [h] <;> omega

end Go.Proofs.YtbjajboodohabaaGreat
namespace Go.Proofs.YtbjajboodohabaaGreat
open Go.RowKit

theorem bits_cell {w : World} {B n c : Nat} {A : Option Addr} {l : List Bool} (h : Sl w B A n c (bvs (bbs l))) {k : Nat} (hk : k < n) : ∃ ad b, A = some ad ∧ l[k]? = some b ∧ w.cell? (ad.add k) = some (.int .u8 ((b : Bool).toNat : Int)) := by
  obtain ⟨ad, u, e, _, hu, hc⟩ := h.get hk
  have hl : l.length = n := by simpa using h.len
  have hlk : l[k]? = some l[k] := List.getElem?_eq_getElem (by omega)
  refine ⟨ad, l[k], e, hlk, ?_⟩
  rw [hc, ← hu]
  simp only [bvs, List.getElem?_map, bbs_get l k _ hlk]
  simp only [Option.map_some, bv, bb_toNat]

theorem add_bit (x k : Nat) (h : x + 2 ^ (7 - k % 8) < 256) : Value.int .u8 (((x : Int) + 2 ^ (7 - k % 8)) % 256) = bv (UInt8.ofNat (x + 2 ^ (7 - k % 8))) := by
  unfold bv
  have e : ((x : Int) + 2 ^ (7 - k % 8)) = ((x + 2 ^ (7 - k % 8) : Nat) : Int) := by push_cast; rfl
  rw [e, UInt8.toNat_ofNat', Nat.mod_eq_of_lt h]
  generalize x + 2 ^ (7 - k % 8) = y at *
  rw [show (y : Int) % 256 = (y : Int) by omega]

end Go.Proofs.YtbjajboodohabaaGreat
namespace Go.Proofs.YtbjajboodohabaaGreat
open Go.RowKit

theorem sumLen_bound (ps : List (List UInt8)) (M : Nat) (h : ∀ p ∈ ps, p.length ≤ M) : sumLen ps ≤ M * ps.length := by
  induction ps with
  | nil => simp [sumLen]
  | cons p ps ih =>
    have h1 := h p (by simp)
    have h2 := ih (fun q hq => h q (by simp [hq]))
    unfold sumLen at h2 ⊢
    rw [List.map_cons, List.sum_cons, List.length_cons, Nat.mul_succ]
    omega

/-- a call answers a number and keeps what lay -/
def Numbers (x : Int) (w : World) (e : Ending) (w' : World) : Prop := e = .returned (.int .i64 x) ∧ Below w.heap.size w w'

/-- the first k parts are as they must be -/
def partsOk (ps : List (List UInt8)) (k : Nat) : Prop := ∀ i, i < k → 1 ≤ (ps[i]?.getD []).length ∧ (i + 1 < ps.length → (ps[i]?.getD []).length ≤ 2047)
theorem validB_end (ps : List (List UInt8)) (h1 : 1 ≤ ps.length) (h2 : ps.length ≤ 64) (h : partsOk ps ps.length) : validB ps = decide (sumLen ps ≤ 32767) := by
  rw [Bool.eq_iff_iff, validB_iff]
  simp only [decide_eq_true_eq]
  constructor
  · exact fun hv => hv.sum
  · intro hs
    refine ⟨h1, h2, fun p hp => ?_, fun i hi => (h i (by omega)).2 hi, hs⟩
    obtain ⟨i, hi, rfl⟩ := List.mem_iff_getElem.1 hp
    have := (h i hi).1
    rwa [List.getElem?_eq_getElem hi] at this
theorem validB_no (ps : List (List UInt8)) (k : Nat) (hk : k < ps.length) (h : (ps[k]?.getD []).length < 1 ∨ 32767 < (ps[k]?.getD []).length ∨ (k + 1 < ps.length ∧ 2047 < (ps[k]?.getD []).length)) : validB ps = false := by
  rw [← Bool.not_eq_true, validB_iff]
  intro hv
  have hm : ps[k]?.getD [] ∈ ps := by rw [List.getElem?_eq_getElem hk]; exact List.getElem_mem hk
  have h1 := hv.pos _ hm
  have h2 := mem_le_sumLen hm
  have h3 := hv.sum
  rcases h with h | h | ⟨h, h'⟩
  · omega
  · omega
  · have := hv.short k h; omega
theorem partsOk_succ (ps : List (List UInt8)) (k : Nat) (h : partsOk ps k) (h1 : 1 ≤ (ps[k]?.getD []).length) (h2 : k + 1 < ps.length → (ps[k]?.getD []).length ≤ 2047) : partsOk ps (k + 1) := fun i hi => by
  rcases Nat.lt_or_ge i k with hk | hk
  · exact h i hk
  · obtain rfl : i = k := by omega
    exact ⟨h1, h2⟩
/-- a call answers b and keeps what lay -/
def Tells' (b : Bool) (w : World) (e : Ending) (w' : World) : Prop := e = .returned (.bool b) ∧ Below w.heap.size w w'

end Go.Proofs.YtbjajboodohabaaGreat
namespace Go.Proofs.YtbjajboodohabaaGreat
open Go.RowKit

theorem lenBits_step (ps : List (List UInt8)) (k : Nat) (p : List UInt8) (hp : ps[k]?.getD [] = p) (L : List Bool) : bbs (L ++ lenBits ps (k + 1)) = bbs (L ++ lenBits ps k) ++ bbs (bitsOf (decide (k + 2 < ps.length)).toNat 1) ++ bbs (bitsOf p.length 11) := by
  rw [lenBits_succ]
  unfold lenField
  rw [hp]
  simp [fieldBits, bbs]

theorem encU_ref (sn : Nat) (s e : Bool) (ps : List (List UInt8)) : encU sn s e ps = pack (bitsOf 0 3 ++ bitsOf (framN s e ps.length) 3 ++ bitsOf sn 10 ++ lenBits ps (ps.length - 1)) ++ ps.flatten := by
  have hh : fieldBits (umHead sn s e ps.length) = bitsOf 0 3 ++ bitsOf (framN s e ps.length) 3 ++ bitsOf sn 10 := by
    have h3 : fieldBits [((!s).toNat, 1), ((!e).toNat, 1), ((decide (1 < ps.length)).toNat, 1)] = bitsOf (framN s e ps.length) 3 := by
      unfold framN
      generalize decide (1 < ps.length) = d
      cases s <;> cases e <;> cases d <;> decide
    rw [← h3]
    simp [fieldBits, umHead]
  unfold encU
  rw [hh]
end Go.Proofs.YtbjajboodohabaaGreat
